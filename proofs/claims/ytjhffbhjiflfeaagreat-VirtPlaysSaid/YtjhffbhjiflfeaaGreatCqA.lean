/-
  The document's copies, their rows wherever they lie.
-/
import Derived.Test.YtjhffbhjiflfeaaGreatBentRefP
import Derived.Test.YtjhffbhjiflfeaaGreatRegionZ
namespace Go.Proofs.YtjhffbhjiflfeaaGreat
set_option linter.unusedVariables false
set_option linter.unusedSimpArgs false
open Go.RowKit Go.Shelf

/-- Block q holds the copies; the rows lie anywhere, apart. -/
def IsCq (w : World) (q : Nat) (F L R : Int) (n : Nat) (X Y : Nat → Int) : Prop :=
  ∃ vx vy, Blk w q 111 #[.int .u64 F, .int .u64 L, .int .u64 R, vx, vy] ∧ w.ownsRow 0 28 1 vx n (rowOf X n) ∧ w.ownsRow 0 28 1 vy n (rowOf Y n)
theorem IsCq.next {w w' : World} {q : Nat} {F L R : Int} {n : Nat} {X Y : Nat → Int} (h : IsCq w q F L R n X Y) (hb : Below w.heap.size w w') : IsCq w' q F L R n X Y := by
  obtain ⟨vx, vy, hq, hx, hy⟩ := h
  exact ⟨vx, vy, hq.next hb, own_next hx hb, own_next hy hb⟩
theorem IsCq.open {w : World} {q : Nat} {F L R : Int} {n : Nat} {X Y : Nat → Int} (h : IsCq w q F L R n X Y) :
    ∃ A cA D cD, Blk w q 111 #[.int .u64 F, .int .u64 L, .int .u64 R, .slice A n cA, .slice D n cD] ∧ (n ≤ cA ∧ cA ≤ maxLen) ∧ (n ≤ cD ∧ cD ≤ maxLen) ∧
      (0 < n → ∃ g, A = some ⟨g, 0, none⟩ ∧ g < w.heap.size ∧ ∀ j, j < n → w.cell? ⟨g, j, none⟩ = some (.int .u64 (X j))) ∧
      (0 < n → ∃ g, D = some ⟨g, 0, none⟩ ∧ g < w.heap.size ∧ ∀ j, j < n → w.cell? ⟨g, j, none⟩ = some (.int .u64 (Y j))) := by
  obtain ⟨vx, vy, hq, hx, hy⟩ := h
  obtain ⟨A, cA, rfl, a1, a2, a3⟩ := own_reads hx
  obtain ⟨D, cD, rfl, d1, d2, d3⟩ := own_reads hy
  exact ⟨A, cA, D, cD, hq, ⟨a1, a2⟩, ⟨d1, d2⟩, a3, d3⟩

end Go.Proofs.YtjhffbhjiflfeaaGreat
namespace Go.Proofs.YtjhffbhjiflfeaaGreat
set_option linter.unusedVariables false
set_option linter.unusedSimpArgs false
set_option maxRecDepth 100000
open Go.RowKit Go.Shelf

/-- The last one's tick. -/
def lastOf (X : Nat → Int) : Nat → Int
  | 0 => 0
  | k + 1 => X k
theorem lastOf_run (X : Nat → Int) (n : Nat) : lastOf (fun i => runX X (i + 1)) n = runX X n := by cases n <;> rfl

theorem rlast_any (q : Nat) (F L R : Int) (n : Nat) (X Y : Nat → Int) (v : Int) (w : World) (h : IsCq w q F L R n X Y) (hn : n ≤ 1000000) (hv : lastOf X n = v) :
    Calls Tryz.prog 70 #[.pointer (some ⟨q, 0, none⟩)] w fun e w' => e = .returned (.int .u64 v) ∧ Below w.heap.size w w' := by
  obtain ⟨A, cA, D, cD, Qb, ⟨a1, a2⟩, -, hA, -⟩ := h.open
  have Qc3 : World.cell? w ⟨q, 3, none⟩ = some (.slice A n cA) := Qb.get 3 rfl
  have HQ := Lib.hid Qb
  clear Qb h a1 a2
  rcases Nat.eq_zero_or_pos n with h0 | h0
  · subst h0
    obtain rfl : 0 = v := hv
    clear hA
    go_enter Tryz.func70, Tryz.ntmps70
    go_wp2_with fail
    go_ret
    exact ⟨rfl, Below.refl _ _⟩
  · obtain ⟨g, rfl, hg, hc⟩ := hA h0
    obtain ⟨m, rfl⟩ : ∃ m, n = m + 1 := ⟨n - 1, by omega⟩
    obtain rfl : X m = v := hv
    have cX := hc m (by omega)
    have e0 : ((m : Int) + 1 == 0) = false := beq_eq_false_iff_ne.2 (by omega)
    have m0 : (0 : Int) ≤ (m : Int) := by omega
    have m1 : (m : Int) ≤ 1000000 := by omega
    have e2 : IntKind.i64.wrap ((m : Int) + 1 - 1) = (m : Int) := by rw [IntKind.wrap_i64]; omega
    have e3 : (m : Int) + 1 - 1 = (m : Int) := by omega
    clear hc hA h0
    go_enter Tryz.func70, Tryz.ntmps70
    go_wp2_with fail
    go_quiet (fail)
    go_wp2_with fail
    go_ret
    exact ⟨rfl, below_of_drewN _ _ _⟩

set_option maxHeartbeats 4000000 in
theorem rone_any (q : Nat) (F L R : Int) (n k : Nat) (X Y : Nat → Int) (kk t V : Int) (w : World) (h : IsCq w q F L R n X Y) (my : May F L R) (hk : k < n) (ek : (k : Int) = kk) (hn : n ≤ 1000000) (hx : 0 ≤ X k) (ht : X k ≤ t) (wt : Word t) (hy0 : 0 ≤ Y k) (hy1 : Y k ≤ 4611686018427387904)
    (hV : rawN F L R (t - X k) + Y k = V) :
    Calls Tryz.prog 89 #[.pointer (some ⟨q, 0, none⟩), .int .i64 kk, .int .u64 t] w fun e w' => e = .returned (.agg #[.int .u64 (hiW V), .int .u64 (loW V)]) ∧ Below w.heap.size w w' := by
  subst ek
  obtain ⟨A, cA, D, cD, Qb, -, -, hA, hD⟩ := h.open
  obtain ⟨g, rfl, hg, hcX⟩ := hA (by omega)
  obtain ⟨g', rfl, hg', hcY⟩ := hD (by omega)
  have cX := hcX k hk
  have cY := hcY k hk
  have t1 := wt.2
  have rb := raw_less my (show 0 ≤ t - X k by omega) (by omega)
  have WD := Lib.hid (fun w => refwide_w F L R (t - X k) w my ⟨by omega, by omega⟩ rb.1 (by omega))
  have sm := hiW_small (x := Y k) ⟨hy0, by omega⟩
  have PL := Lib.hid (fun w => refplus_w (rawN F L R (t - X k)) (Y k) 0 (Y k) w rb.1 hy0 (by omega) sm.1 sm.2)
  obtain ⟨x, ex⟩ : ∃ x, X k = x := ⟨_, rfl⟩
  obtain ⟨y, ey⟩ : ∃ y, Y k = y := ⟨_, rfl⟩
  rw [ex] at cX WD PL ht hx hV
  rw [ey] at cY PL hV
  obtain ⟨r, er⟩ : ∃ r, rawN F L R (t - x) = r := ⟨_, rfl⟩
  rw [er] at WD PL hV
  rw [hV] at PL
  obtain ⟨h1, e1⟩ : ∃ z, hiW r = z := ⟨_, rfl⟩
  obtain ⟨l1, e2⟩ : ∃ z, loW r = z := ⟨_, rfl⟩
  obtain ⟨h2, e3⟩ : ∃ z, hiW V = z := ⟨_, rfl⟩
  obtain ⟨l2, e4⟩ : ∃ z, loW V = z := ⟨_, rfl⟩
  rw [e1, e2] at WD
  rw [e1, e2, e3, e4] at PL
  rw [e3, e4]
  have k0 : (0 : Int) ≤ (k : Int) := by omega
  have k1 : (k : Int) < (n : Int) := by omega
  have hw : IntKind.u64.wrap (t - x) = t - x := by rw [IntKind.wrap_u64]; omega
  have KP : Hid (∀ w', Below (w.heap.size) w w' → (w'.cell? ⟨q, 0, none⟩ = some (.int .u64 F) ∧ w'.cell? ⟨q, 1, none⟩ = some (.int .u64 L) ∧ w'.cell? ⟨q, 2, none⟩ = some (.int .u64 R) ∧ w'.cell? ⟨q, 3, none⟩ = some (.slice (some ⟨g, 0, none⟩) n cA) ∧ w'.cell? ⟨q, 4, none⟩ = some (.slice (some ⟨g', 0, none⟩) n cD) ∧ w'.cell? ⟨g, k, none⟩ = some (.int .u64 x) ∧ w'.cell? ⟨g', k, none⟩ = some (.int .u64 y)) ∧ Below (w.heap.size) w w') := fun w' hb => ⟨⟨((Blk.next Qb hb).get 0 rfl), ((Blk.next Qb hb).get 1 rfl), ((Blk.next Qb hb).get 2 rfl), ((Blk.next Qb hb).get 3 rfl), ((Blk.next Qb hb).get 4 rfl), ((hb.cell (p := ⟨g, k, none⟩) hg).trans cX), ((hb.cell (p := ⟨g', k, none⟩) hg').trans cY)⟩, hb⟩
  clear h my hn hA hD hcX hcY cX cY hx ht wt hy0 hy1 hV rb sm ex ey er e1 e2 e3 e4 Qb hg hg' t1
  go_enter Tryz.func89, Tryz.ntmps89
  go_upto_region 1 with (fail)
  go_cut [7, 8] (fun sv ev wc => ∃ q', sv = .pointer (some ⟨q', 0, none⟩) ∧ ev = .int .i64 0 ∧ Blk wc q' 137 #[.int .u64 h2, .int .u64 l2] ∧ Blk wc w.heap.size 137 #[.int .u64 0, .int .u64 0] ∧ Below w.heap.size w wc)
  case first =>
    refine wp_region_noPanic ?_
    refine wp_region_held_drew (S := fun w' => (w'.cell? ⟨q, 0, none⟩ = some (.int .u64 F) ∧ w'.cell? ⟨q, 1, none⟩ = some (.int .u64 L) ∧ w'.cell? ⟨q, 2, none⟩ = some (.int .u64 R) ∧ w'.cell? ⟨q, 3, none⟩ = some (.slice (some ⟨g, 0, none⟩) n cA) ∧ w'.cell? ⟨q, 4, none⟩ = some (.slice (some ⟨g', 0, none⟩) n cD) ∧ w'.cell? ⟨g, k, none⟩ = some (.int .u64 x) ∧ w'.cell? ⟨g', k, none⟩ = some (.int .u64 y)) ∧ Below (w.heap.size) w w') (by kernel_rfl) (KP.out _ (below_of_drew (((Below.refl w.heap.size w).alloc (Nat.le_refl _) (.cells #[.int .u64 0, .int .u64 0] 137))))) (fun hH => ?_)
    have RSb0 : Blk ((w.alloc (.cells #[.int .u64 0, .int .u64 0] 137))).drew (w.heap.size) (137) #[.int .u64 0, .int .u64 0] := Blk.drew (Blk.new w _ _)
    have hbR := below_of_drew (((Below.refl w.heap.size w).alloc (Nat.le_refl _) (.cells #[.int .u64 0, .int .u64 0] 137)))
    first | (refine wpAnyH_take (i := 0) (v := undef) rfl ?_ ?_ ?_ (fun _ _ _ h => h) ?_ ?_ ?_; kernel_rfl; kernel_rfl; kernel_rfl; exact Or.inr ⟨by rfl, rfl⟩; exact hH) | (refine wpAnyH_take (i := 0) (v := ?_) rfl ?_ ?_ ?_ (fun _ _ _ h => h) ?_ ?_ ?_; rotate_left; kernel_rfl; kernel_rfl; kernel_rfl; (focus (refine Or.inl ⟨by rfl, ?_⟩; intro w' hSw; (try dsimp only at hSw); go_simp)); exact hH) | (refine wpAnyH_take (i := 0) (v := ?_) rfl ?_ ?_ ?_ (fun _ _ _ h => h) ?_ ?_ ?_; rotate_left; kernel_rfl; kernel_rfl; kernel_rfl; (focus (refine Or.inl ⟨by rfl, ?_⟩; intro w' hSw; (try dsimp only at hSw); go_simp; with_reducible rfl)); exact hH)
    try simp only [Act.put, List.getElem_toArray, List.getElem_cons_succ, List.getElem_cons_zero, List.setIfInBounds_toArray, List.set_cons_zero, List.set_cons_succ]
    first | (refine wpAnyH_take (i := 1) (v := undef) rfl ?_ ?_ ?_ (fun _ _ _ h => h) ?_ ?_ ?_; kernel_rfl; kernel_rfl; kernel_rfl; exact Or.inr ⟨by rfl, rfl⟩; exact hH) | (refine wpAnyH_take (i := 1) (v := ?_) rfl ?_ ?_ ?_ (fun _ _ _ h => h) ?_ ?_ ?_; rotate_left; kernel_rfl; kernel_rfl; kernel_rfl; (focus (refine Or.inl ⟨by rfl, ?_⟩; intro w' hSw; (try dsimp only at hSw); go_simp)); exact hH) | (refine wpAnyH_take (i := 1) (v := ?_) rfl ?_ ?_ ?_ (fun _ _ _ h => h) ?_ ?_ ?_; rotate_left; kernel_rfl; kernel_rfl; kernel_rfl; (focus (refine Or.inl ⟨by rfl, ?_⟩; intro w' hSw; (try dsimp only at hSw); go_simp; with_reducible rfl)); exact hH)
    try simp only [Act.put, List.getElem_toArray, List.getElem_cons_succ, List.getElem_cons_zero, List.setIfInBounds_toArray, List.set_cons_zero, List.set_cons_succ]
    first | (refine wpAnyH_take (i := 2) (v := undef) rfl ?_ ?_ ?_ (fun _ _ _ h => h) ?_ ?_ ?_; kernel_rfl; kernel_rfl; kernel_rfl; exact Or.inr ⟨by rfl, rfl⟩; exact hH) | (refine wpAnyH_take (i := 2) (v := ?_) rfl ?_ ?_ ?_ (fun _ _ _ h => h) ?_ ?_ ?_; rotate_left; kernel_rfl; kernel_rfl; kernel_rfl; (focus (refine Or.inl ⟨by rfl, ?_⟩; intro w' hSw; (try dsimp only at hSw); go_simp)); exact hH) | (refine wpAnyH_take (i := 2) (v := ?_) rfl ?_ ?_ ?_ (fun _ _ _ h => h) ?_ ?_ ?_; rotate_left; kernel_rfl; kernel_rfl; kernel_rfl; (focus (refine Or.inl ⟨by rfl, ?_⟩; intro w' hSw; (try dsimp only at hSw); go_simp; with_reducible rfl)); exact hH)
    try simp only [Act.put, List.getElem_toArray, List.getElem_cons_succ, List.getElem_cons_zero, List.setIfInBounds_toArray, List.set_cons_zero, List.set_cons_succ]
    first | (refine wpAnyH_take (i := 3) (v := undef) rfl ?_ ?_ ?_ (fun _ _ _ h => h) ?_ ?_ ?_; kernel_rfl; kernel_rfl; kernel_rfl; exact Or.inr ⟨by rfl, rfl⟩; exact hH) | (refine wpAnyH_take (i := 3) (v := ?_) rfl ?_ ?_ ?_ (fun _ _ _ h => h) ?_ ?_ ?_; rotate_left; kernel_rfl; kernel_rfl; kernel_rfl; (focus (refine Or.inl ⟨by rfl, ?_⟩; intro w' hSw; (try dsimp only at hSw); go_simp)); exact hH) | (refine wpAnyH_take (i := 3) (v := ?_) rfl ?_ ?_ ?_ (fun _ _ _ h => h) ?_ ?_ ?_; rotate_left; kernel_rfl; kernel_rfl; kernel_rfl; (focus (refine Or.inl ⟨by rfl, ?_⟩; intro w' hSw; (try dsimp only at hSw); go_simp; with_reducible rfl)); exact hH)
    try simp only [Act.put, List.getElem_toArray, List.getElem_cons_succ, List.getElem_cons_zero, List.setIfInBounds_toArray, List.set_cons_zero, List.set_cons_succ]
    first | (refine wpAnyH_take (i := 4) (v := undef) rfl ?_ ?_ ?_ (fun _ _ _ h => h) ?_ ?_ ?_; kernel_rfl; kernel_rfl; kernel_rfl; exact Or.inr ⟨by rfl, rfl⟩; exact hH) | (refine wpAnyH_take (i := 4) (v := ?_) rfl ?_ ?_ ?_ (fun _ _ _ h => h) ?_ ?_ ?_; rotate_left; kernel_rfl; kernel_rfl; kernel_rfl; (focus (refine Or.inl ⟨by rfl, ?_⟩; intro w' hSw; (try dsimp only at hSw); go_simp)); exact hH) | (refine wpAnyH_take (i := 4) (v := ?_) rfl ?_ ?_ ?_ (fun _ _ _ h => h) ?_ ?_ ?_; rotate_left; kernel_rfl; kernel_rfl; kernel_rfl; (focus (refine Or.inl ⟨by rfl, ?_⟩; intro w' hSw; (try dsimp only at hSw); go_simp; with_reducible rfl)); exact hH)
    try simp only [Act.put, List.getElem_toArray, List.getElem_cons_succ, List.getElem_cons_zero, List.setIfInBounds_toArray, List.set_cons_zero, List.set_cons_succ]
    first | (refine wpAnyH_take (i := 5) (v := undef) rfl ?_ ?_ ?_ (fun _ _ _ h => h) ?_ ?_ ?_; kernel_rfl; kernel_rfl; kernel_rfl; exact Or.inr ⟨by rfl, rfl⟩; exact hH) | (refine wpAnyH_take (i := 5) (v := ?_) rfl ?_ ?_ ?_ (fun _ _ _ h => h) ?_ ?_ ?_; rotate_left; kernel_rfl; kernel_rfl; kernel_rfl; (focus (refine Or.inl ⟨by rfl, ?_⟩; intro w' hSw; (try dsimp only at hSw); go_simp)); exact hH) | (refine wpAnyH_take (i := 5) (v := ?_) rfl ?_ ?_ ?_ (fun _ _ _ h => h) ?_ ?_ ?_; rotate_left; kernel_rfl; kernel_rfl; kernel_rfl; (focus (refine Or.inl ⟨by rfl, ?_⟩; intro w' hSw; (try dsimp only at hSw); go_simp; with_reducible rfl)); exact hH)
    try simp only [Act.put, List.getElem_toArray, List.getElem_cons_succ, List.getElem_cons_zero, List.setIfInBounds_toArray, List.set_cons_zero, List.set_cons_succ]
    first | (refine wpAnyH_take (i := 6) (v := undef) rfl ?_ ?_ ?_ (fun _ _ _ h => h) ?_ ?_ ?_; kernel_rfl; kernel_rfl; kernel_rfl; exact Or.inr ⟨by rfl, rfl⟩; exact hH) | (refine wpAnyH_take (i := 6) (v := ?_) rfl ?_ ?_ ?_ (fun _ _ _ h => h) ?_ ?_ ?_; rotate_left; kernel_rfl; kernel_rfl; kernel_rfl; (focus (refine Or.inl ⟨by rfl, ?_⟩; intro w' hSw; (try dsimp only at hSw); go_simp)); exact hH) | (refine wpAnyH_take (i := 6) (v := ?_) rfl ?_ ?_ ?_ (fun _ _ _ h => h) ?_ ?_ ?_; rotate_left; kernel_rfl; kernel_rfl; kernel_rfl; (focus (refine Or.inl ⟨by rfl, ?_⟩; intro w' hSw; (try dsimp only at hSw); go_simp; with_reducible rfl)); exact hH)
    try simp only [Act.put, List.getElem_toArray, List.getElem_cons_succ, List.getElem_cons_zero, List.setIfInBounds_toArray, List.set_cons_zero, List.set_cons_succ]
    first | (refine wpAnyH_take (i := 7) (v := undef) rfl ?_ ?_ ?_ (fun _ _ _ h => h) ?_ ?_ ?_; kernel_rfl; kernel_rfl; kernel_rfl; exact Or.inr ⟨by rfl, rfl⟩; exact hH) | (refine wpAnyH_take (i := 7) (v := ?_) rfl ?_ ?_ ?_ (fun _ _ _ h => h) ?_ ?_ ?_; rotate_left; kernel_rfl; kernel_rfl; kernel_rfl; (focus (refine Or.inl ⟨by rfl, ?_⟩; intro w' hSw; (try dsimp only at hSw); go_simp)); exact hH) | (refine wpAnyH_take (i := 7) (v := ?_) rfl ?_ ?_ ?_ (fun _ _ _ h => h) ?_ ?_ ?_; rotate_left; kernel_rfl; kernel_rfl; kernel_rfl; (focus (refine Or.inl ⟨by rfl, ?_⟩; intro w' hSw; (try dsimp only at hSw); go_simp; with_reducible rfl)); exact hH)
    try simp only [Act.put, List.getElem_toArray, List.getElem_cons_succ, List.getElem_cons_zero, List.setIfInBounds_toArray, List.set_cons_zero, List.set_cons_succ]
    first | (refine wpAnyH_take (i := 8) (v := undef) rfl ?_ ?_ ?_ (fun _ _ _ h => h) ?_ ?_ ?_; kernel_rfl; kernel_rfl; kernel_rfl; exact Or.inr ⟨by rfl, rfl⟩; exact hH) | (refine wpAnyH_take (i := 8) (v := ?_) rfl ?_ ?_ ?_ (fun _ _ _ h => h) ?_ ?_ ?_; rotate_left; kernel_rfl; kernel_rfl; kernel_rfl; (focus (refine Or.inl ⟨by rfl, ?_⟩; intro w' hSw; (try dsimp only at hSw); go_simp)); exact hH) | (refine wpAnyH_take (i := 8) (v := ?_) rfl ?_ ?_ ?_ (fun _ _ _ h => h) ?_ ?_ ?_; rotate_left; kernel_rfl; kernel_rfl; kernel_rfl; (focus (refine Or.inl ⟨by rfl, ?_⟩; intro w' hSw; (try dsimp only at hSw); go_simp; with_reducible rfl)); exact hH)
    try simp only [Act.put, List.getElem_toArray, List.getElem_cons_succ, List.getElem_cons_zero, List.setIfInBounds_toArray, List.set_cons_zero, List.set_cons_succ]
    first | (refine wpAnyH_take (i := 9) (v := undef) rfl ?_ ?_ ?_ (fun _ _ _ h => h) ?_ ?_ ?_; kernel_rfl; kernel_rfl; kernel_rfl; exact Or.inr ⟨by rfl, rfl⟩; exact hH) | (refine wpAnyH_take (i := 9) (v := ?_) rfl ?_ ?_ ?_ (fun _ _ _ h => h) ?_ ?_ ?_; rotate_left; kernel_rfl; kernel_rfl; kernel_rfl; (focus (refine Or.inl ⟨by rfl, ?_⟩; intro w' hSw; (try dsimp only at hSw); go_simp)); exact hH) | (refine wpAnyH_take (i := 9) (v := ?_) rfl ?_ ?_ ?_ (fun _ _ _ h => h) ?_ ?_ ?_; rotate_left; kernel_rfl; kernel_rfl; kernel_rfl; (focus (refine Or.inl ⟨by rfl, ?_⟩; intro w' hSw; (try dsimp only at hSw); go_simp; with_reducible rfl)); exact hH)
    try simp only [Act.put, List.getElem_toArray, List.getElem_cons_succ, List.getElem_cons_zero, List.setIfInBounds_toArray, List.set_cons_zero, List.set_cons_succ]
    first | (refine wpAnyH_take (i := 10) (v := undef) rfl ?_ ?_ ?_ (fun _ _ _ h => h) ?_ ?_ ?_; kernel_rfl; kernel_rfl; kernel_rfl; exact Or.inr ⟨by rfl, rfl⟩; exact hH) | (refine wpAnyH_take (i := 10) (v := ?_) rfl ?_ ?_ ?_ (fun _ _ _ h => h) ?_ ?_ ?_; rotate_left; kernel_rfl; kernel_rfl; kernel_rfl; (focus (refine Or.inl ⟨by rfl, ?_⟩; intro w' hSw; (try dsimp only at hSw); go_simp)); exact hH) | (refine wpAnyH_take (i := 10) (v := ?_) rfl ?_ ?_ ?_ (fun _ _ _ h => h) ?_ ?_ ?_; rotate_left; kernel_rfl; kernel_rfl; kernel_rfl; (focus (refine Or.inl ⟨by rfl, ?_⟩; intro w' hSw; (try dsimp only at hSw); go_simp; with_reducible rfl)); exact hH)
    try simp only [Act.put, List.getElem_toArray, List.getElem_cons_succ, List.getElem_cons_zero, List.setIfInBounds_toArray, List.set_cons_zero, List.set_cons_succ]
    first | (refine wpAnyH_take (i := 11) (v := undef) rfl ?_ ?_ ?_ (fun _ _ _ h => h) ?_ ?_ ?_; kernel_rfl; kernel_rfl; kernel_rfl; exact Or.inr ⟨by rfl, rfl⟩; exact hH) | (refine wpAnyH_take (i := 11) (v := ?_) rfl ?_ ?_ ?_ (fun _ _ _ h => h) ?_ ?_ ?_; rotate_left; kernel_rfl; kernel_rfl; kernel_rfl; (focus (refine Or.inl ⟨by rfl, ?_⟩; intro w' hSw; (try dsimp only at hSw); go_simp)); exact hH) | (refine wpAnyH_take (i := 11) (v := ?_) rfl ?_ ?_ ?_ (fun _ _ _ h => h) ?_ ?_ ?_; rotate_left; kernel_rfl; kernel_rfl; kernel_rfl; (focus (refine Or.inl ⟨by rfl, ?_⟩; intro w' hSw; (try dsimp only at hSw); go_simp; with_reducible rfl)); exact hH)
    try simp only [Act.put, List.getElem_toArray, List.getElem_cons_succ, List.getElem_cons_zero, List.setIfInBounds_toArray, List.set_cons_zero, List.set_cons_succ]
    first | (refine wpAnyH_take (i := 12) (v := undef) rfl ?_ ?_ ?_ (fun _ _ _ h => h) ?_ ?_ ?_; kernel_rfl; kernel_rfl; kernel_rfl; exact Or.inr ⟨by rfl, rfl⟩; exact hH) | (refine wpAnyH_take (i := 12) (v := ?_) rfl ?_ ?_ ?_ (fun _ _ _ h => h) ?_ ?_ ?_; rotate_left; kernel_rfl; kernel_rfl; kernel_rfl; (focus (refine Or.inl ⟨by rfl, ?_⟩; intro w' hSw; (try dsimp only at hSw); go_simp)); exact hH) | (refine wpAnyH_take (i := 12) (v := ?_) rfl ?_ ?_ ?_ (fun _ _ _ h => h) ?_ ?_ ?_; rotate_left; kernel_rfl; kernel_rfl; kernel_rfl; (focus (refine Or.inl ⟨by rfl, ?_⟩; intro w' hSw; (try dsimp only at hSw); go_simp; with_reducible rfl)); exact hH)
    try simp only [Act.put, List.getElem_toArray, List.getElem_cons_succ, List.getElem_cons_zero, List.setIfInBounds_toArray, List.set_cons_zero, List.set_cons_succ]
    first | (refine wpAnyH_take (i := 14) (v := undef) rfl ?_ ?_ ?_ (fun _ _ _ h => h) ?_ ?_ ?_; kernel_rfl; kernel_rfl; kernel_rfl; exact Or.inr ⟨by rfl, rfl⟩; exact hH) | (refine wpAnyH_take (i := 14) (v := ?_) rfl ?_ ?_ ?_ (fun _ _ _ h => h) ?_ ?_ ?_; rotate_left; kernel_rfl; kernel_rfl; kernel_rfl; (focus (refine Or.inl ⟨by rfl, ?_⟩; intro w' hSw; (try dsimp only at hSw); go_simp)); exact hH) | (refine wpAnyH_take (i := 14) (v := ?_) rfl ?_ ?_ ?_ (fun _ _ _ h => h) ?_ ?_ ?_; rotate_left; kernel_rfl; kernel_rfl; kernel_rfl; (focus (refine Or.inl ⟨by rfl, ?_⟩; intro w' hSw; (try dsimp only at hSw); go_simp; with_reducible rfl)); exact hH)
    try simp only [Act.put, List.getElem_toArray, List.getElem_cons_succ, List.getElem_cons_zero, List.setIfInBounds_toArray, List.set_cons_zero, List.set_cons_succ]
    first | (refine wpAnyH_take (i := 15) (v := undef) rfl ?_ ?_ ?_ (fun _ _ _ h => h) ?_ ?_ ?_; kernel_rfl; kernel_rfl; kernel_rfl; exact Or.inr ⟨by rfl, rfl⟩; exact hH) | (refine wpAnyH_take (i := 15) (v := ?_) rfl ?_ ?_ ?_ (fun _ _ _ h => h) ?_ ?_ ?_; rotate_left; kernel_rfl; kernel_rfl; kernel_rfl; (focus (refine Or.inl ⟨by rfl, ?_⟩; intro w' hSw; (try dsimp only at hSw); go_simp)); exact hH) | (refine wpAnyH_take (i := 15) (v := ?_) rfl ?_ ?_ ?_ (fun _ _ _ h => h) ?_ ?_ ?_; rotate_left; kernel_rfl; kernel_rfl; kernel_rfl; (focus (refine Or.inl ⟨by rfl, ?_⟩; intro w' hSw; (try dsimp only at hSw); go_simp; with_reducible rfl)); exact hH)
    try simp only [Act.put, List.getElem_toArray, List.getElem_cons_succ, List.getElem_cons_zero, List.setIfInBounds_toArray, List.set_cons_zero, List.set_cons_succ]
    first | (refine wpAnyH_take (i := 16) (v := undef) rfl ?_ ?_ ?_ (fun _ _ _ h => h) ?_ ?_ ?_; kernel_rfl; kernel_rfl; kernel_rfl; exact Or.inr ⟨by rfl, rfl⟩; exact hH) | (refine wpAnyH_take (i := 16) (v := ?_) rfl ?_ ?_ ?_ (fun _ _ _ h => h) ?_ ?_ ?_; rotate_left; kernel_rfl; kernel_rfl; kernel_rfl; (focus (refine Or.inl ⟨by rfl, ?_⟩; intro w' hSw; (try dsimp only at hSw); go_simp)); exact hH) | (refine wpAnyH_take (i := 16) (v := ?_) rfl ?_ ?_ ?_ (fun _ _ _ h => h) ?_ ?_ ?_; rotate_left; kernel_rfl; kernel_rfl; kernel_rfl; (focus (refine Or.inl ⟨by rfl, ?_⟩; intro w' hSw; (try dsimp only at hSw); go_simp; with_reducible rfl)); exact hH)
    try simp only [Act.put, List.getElem_toArray, List.getElem_cons_succ, List.getElem_cons_zero, List.setIfInBounds_toArray, List.set_cons_zero, List.set_cons_succ]
    first | (refine wpAnyH_take (i := 17) (v := undef) rfl ?_ ?_ ?_ (fun _ _ _ h => h) ?_ ?_ ?_; kernel_rfl; kernel_rfl; kernel_rfl; exact Or.inr ⟨by rfl, rfl⟩; exact hH) | (refine wpAnyH_take (i := 17) (v := ?_) rfl ?_ ?_ ?_ (fun _ _ _ h => h) ?_ ?_ ?_; rotate_left; kernel_rfl; kernel_rfl; kernel_rfl; (focus (refine Or.inl ⟨by rfl, ?_⟩; intro w' hSw; (try dsimp only at hSw); go_simp)); exact hH) | (refine wpAnyH_take (i := 17) (v := ?_) rfl ?_ ?_ ?_ (fun _ _ _ h => h) ?_ ?_ ?_; rotate_left; kernel_rfl; kernel_rfl; kernel_rfl; (focus (refine Or.inl ⟨by rfl, ?_⟩; intro w' hSw; (try dsimp only at hSw); go_simp; with_reducible rfl)); exact hH)
    try simp only [Act.put, List.getElem_toArray, List.getElem_cons_succ, List.getElem_cons_zero, List.setIfInBounds_toArray, List.set_cons_zero, List.set_cons_succ]
    first | (refine wpAnyH_take (i := 18) (v := undef) rfl ?_ ?_ ?_ (fun _ _ _ h => h) ?_ ?_ ?_; kernel_rfl; kernel_rfl; kernel_rfl; exact Or.inr ⟨by rfl, rfl⟩; exact hH) | (refine wpAnyH_take (i := 18) (v := ?_) rfl ?_ ?_ ?_ (fun _ _ _ h => h) ?_ ?_ ?_; rotate_left; kernel_rfl; kernel_rfl; kernel_rfl; (focus (refine Or.inl ⟨by rfl, ?_⟩; intro w' hSw; (try dsimp only at hSw); go_simp)); exact hH) | (refine wpAnyH_take (i := 18) (v := ?_) rfl ?_ ?_ ?_ (fun _ _ _ h => h) ?_ ?_ ?_; rotate_left; kernel_rfl; kernel_rfl; kernel_rfl; (focus (refine Or.inl ⟨by rfl, ?_⟩; intro w' hSw; (try dsimp only at hSw); go_simp; with_reducible rfl)); exact hH)
    try simp only [Act.put, List.getElem_toArray, List.getElem_cons_succ, List.getElem_cons_zero, List.setIfInBounds_toArray, List.set_cons_zero, List.set_cons_succ]
    first | (refine wpAnyH_take (i := 19) (v := undef) rfl ?_ ?_ ?_ (fun _ _ _ h => h) ?_ ?_ ?_; kernel_rfl; kernel_rfl; kernel_rfl; exact Or.inr ⟨by rfl, rfl⟩; exact hH) | (refine wpAnyH_take (i := 19) (v := ?_) rfl ?_ ?_ ?_ (fun _ _ _ h => h) ?_ ?_ ?_; rotate_left; kernel_rfl; kernel_rfl; kernel_rfl; (focus (refine Or.inl ⟨by rfl, ?_⟩; intro w' hSw; (try dsimp only at hSw); go_simp)); exact hH) | (refine wpAnyH_take (i := 19) (v := ?_) rfl ?_ ?_ ?_ (fun _ _ _ h => h) ?_ ?_ ?_; rotate_left; kernel_rfl; kernel_rfl; kernel_rfl; (focus (refine Or.inl ⟨by rfl, ?_⟩; intro w' hSw; (try dsimp only at hSw); go_simp; with_reducible rfl)); exact hH)
    try simp only [Act.put, List.getElem_toArray, List.getElem_cons_succ, List.getElem_cons_zero, List.setIfInBounds_toArray, List.set_cons_zero, List.set_cons_succ]
    first | (refine wpAnyH_take (i := 20) (v := undef) rfl ?_ ?_ ?_ (fun _ _ _ h => h) ?_ ?_ ?_; kernel_rfl; kernel_rfl; kernel_rfl; exact Or.inr ⟨by rfl, rfl⟩; exact hH) | (refine wpAnyH_take (i := 20) (v := ?_) rfl ?_ ?_ ?_ (fun _ _ _ h => h) ?_ ?_ ?_; rotate_left; kernel_rfl; kernel_rfl; kernel_rfl; (focus (refine Or.inl ⟨by rfl, ?_⟩; intro w' hSw; (try dsimp only at hSw); go_simp)); exact hH) | (refine wpAnyH_take (i := 20) (v := ?_) rfl ?_ ?_ ?_ (fun _ _ _ h => h) ?_ ?_ ?_; rotate_left; kernel_rfl; kernel_rfl; kernel_rfl; (focus (refine Or.inl ⟨by rfl, ?_⟩; intro w' hSw; (try dsimp only at hSw); go_simp; with_reducible rfl)); exact hH)
    try simp only [Act.put, List.getElem_toArray, List.getElem_cons_succ, List.getElem_cons_zero, List.setIfInBounds_toArray, List.set_cons_zero, List.set_cons_succ]
    first | (refine wpAnyH_take (i := 21) (v := undef) rfl ?_ ?_ ?_ (fun _ _ _ h => h) ?_ ?_ ?_; kernel_rfl; kernel_rfl; kernel_rfl; exact Or.inr ⟨by rfl, rfl⟩; exact hH) | (refine wpAnyH_take (i := 21) (v := ?_) rfl ?_ ?_ ?_ (fun _ _ _ h => h) ?_ ?_ ?_; rotate_left; kernel_rfl; kernel_rfl; kernel_rfl; (focus (refine Or.inl ⟨by rfl, ?_⟩; intro w' hSw; (try dsimp only at hSw); go_simp)); exact hH) | (refine wpAnyH_take (i := 21) (v := ?_) rfl ?_ ?_ ?_ (fun _ _ _ h => h) ?_ ?_ ?_; rotate_left; kernel_rfl; kernel_rfl; kernel_rfl; (focus (refine Or.inl ⟨by rfl, ?_⟩; intro w' hSw; (try dsimp only at hSw); go_simp; with_reducible rfl)); exact hH)
    try simp only [Act.put, List.getElem_toArray, List.getElem_cons_succ, List.getElem_cons_zero, List.setIfInBounds_toArray, List.set_cons_zero, List.set_cons_succ]
    refine wpAnyH_ready (rs := [13, 26]) (by kernel_rfl) (by simp) ?_
    refine (AllReadyH.cons rfl (fun K hK => ?_) (AllReadyH.cons rfl (fun K hK => ?_) AllReadyH.nil))
    · skip
      go_simp
      with_reducible refine (WD.out _).mono ?_
      rintro e w1 ⟨rfl, hb1'⟩
      have hb1 : Below (w.heap.size) w w1 := below_next hH.2 hb1'
      try go_wp2_with fail
      have RSb1 := Blk.next RSb0 hb1'
      have RSc10 : World.cell? w1 ⟨w.heap.size, 0, none⟩ = some (.int .u64 0) := Blk.get RSb1 0 rfl
      have RSf10 : World.frozen? w1 ⟨w.heap.size, 0, none⟩ = false := Blk.frozen RSb1 0
      have RSc11 : World.cell? w1 ⟨w.heap.size, 1, none⟩ = some (.int .u64 0) := Blk.get RSb1 1 rfl
      have RSf11 : World.frozen? w1 ⟨w.heap.size, 1, none⟩ = false := Blk.frozen RSb1 1
      have RSn1 := Blk.lt RSb1
      refine hK.out _ _ (KP.out _ hb1) (fun hH1 => ?_)
      clear hK K hH
      have hH := hH1
      clear hH1
      try simp only [Act.put, List.getElem_toArray, List.getElem_cons_succ, List.getElem_cons_zero, List.setIfInBounds_toArray, List.set_cons_zero, List.set_cons_succ]
      refine wpAnyH_ready (rs := [22, 26]) (by kernel_rfl) (by simp) ?_
      refine (AllReadyH.cons rfl (fun K hK => ?_) (AllReadyH.cons rfl (fun K hK => ?_) AllReadyH.nil))
      · skip
        go_simp
        with_reducible refine (PL.out _).mono ?_
        rintro e w2 ⟨rfl, hb2'⟩
        have hb2 : Below (w.heap.size) w w2 := below_next hH.2 hb2'
        try go_wp2_with fail
        have RSb2 := Blk.next RSb1 hb2'
        have RSc20 : World.cell? w2 ⟨w.heap.size, 0, none⟩ = some (.int .u64 0) := Blk.get RSb2 0 rfl
        have RSf20 : World.frozen? w2 ⟨w.heap.size, 0, none⟩ = false := Blk.frozen RSb2 0
        have RSc21 : World.cell? w2 ⟨w.heap.size, 1, none⟩ = some (.int .u64 0) := Blk.get RSb2 1 rfl
        have RSf21 : World.frozen? w2 ⟨w.heap.size, 1, none⟩ = false := Blk.frozen RSb2 1
        have RSn2 := Blk.lt RSb2
        refine hK.out _ _ (KP.out _ hb2) (fun hH2 => ?_)
        clear hK K hH
        have hH := hH2
        clear hH2
        try simp only [Act.put, List.getElem_toArray, List.getElem_cons_succ, List.getElem_cons_zero, List.setIfInBounds_toArray, List.set_cons_zero, List.set_cons_succ]
        first | (refine wpAnyH_take (i := 23) (v := undef) rfl ?_ ?_ ?_ (fun _ _ _ h => h) ?_ ?_ ?_; kernel_rfl; kernel_rfl; kernel_rfl; exact Or.inr ⟨by rfl, rfl⟩; exact hH) | (refine wpAnyH_take (i := 23) (v := ?_) rfl ?_ ?_ ?_ (fun _ _ _ h => h) ?_ ?_ ?_; rotate_left; kernel_rfl; kernel_rfl; kernel_rfl; (focus (refine Or.inl ⟨by rfl, ?_⟩; intro w' hSw; (try dsimp only at hSw); go_simp)); exact hH) | (refine wpAnyH_take (i := 23) (v := ?_) rfl ?_ ?_ ?_ (fun _ _ _ h => h) ?_ ?_ ?_; rotate_left; kernel_rfl; kernel_rfl; kernel_rfl; (focus (refine Or.inl ⟨by rfl, ?_⟩; intro w' hSw; (try dsimp only at hSw); go_simp; with_reducible rfl)); exact hH)
        try simp only [Act.put, List.getElem_toArray, List.getElem_cons_succ, List.getElem_cons_zero, List.setIfInBounds_toArray, List.set_cons_zero, List.set_cons_succ]
        first | (refine wpAnyH_take (i := 24) (v := undef) rfl ?_ ?_ ?_ (fun _ _ _ h => h) ?_ ?_ ?_; kernel_rfl; kernel_rfl; kernel_rfl; exact Or.inr ⟨by rfl, rfl⟩; exact hH) | (refine wpAnyH_take (i := 24) (v := ?_) rfl ?_ ?_ ?_ (fun _ _ _ h => h) ?_ ?_ ?_; rotate_left; kernel_rfl; kernel_rfl; kernel_rfl; (focus (refine Or.inl ⟨by rfl, ?_⟩; intro w' hSw; (try dsimp only at hSw); go_simp)); exact hH) | (refine wpAnyH_take (i := 24) (v := ?_) rfl ?_ ?_ ?_ (fun _ _ _ h => h) ?_ ?_ ?_; rotate_left; kernel_rfl; kernel_rfl; kernel_rfl; (focus (refine Or.inl ⟨by rfl, ?_⟩; intro w' hSw; (try dsimp only at hSw); go_simp; with_reducible rfl)); exact hH)
        try simp only [Act.put, List.getElem_toArray, List.getElem_cons_succ, List.getElem_cons_zero, List.setIfInBounds_toArray, List.set_cons_zero, List.set_cons_succ]
        first | (refine wpAnyH_take (i := 25) (v := undef) rfl ?_ ?_ ?_ (fun _ _ _ h => h) ?_ ?_ ?_; kernel_rfl; kernel_rfl; kernel_rfl; exact Or.inr ⟨by rfl, rfl⟩; exact hH) | (refine wpAnyH_take (i := 25) (v := ?_) rfl ?_ ?_ ?_ (fun _ _ _ h => h) ?_ ?_ ?_; rotate_left; kernel_rfl; kernel_rfl; kernel_rfl; (focus (refine Or.inl ⟨by rfl, ?_⟩; intro w' hSw; (try dsimp only at hSw); go_simp)); exact hH) | (refine wpAnyH_take (i := 25) (v := ?_) rfl ?_ ?_ ?_ (fun _ _ _ h => h) ?_ ?_ ?_; rotate_left; kernel_rfl; kernel_rfl; kernel_rfl; (focus (refine Or.inl ⟨by rfl, ?_⟩; intro w' hSw; (try dsimp only at hSw); go_simp; with_reducible rfl)); exact hH)
        try simp only [Act.put, List.getElem_toArray, List.getElem_cons_succ, List.getElem_cons_zero, List.setIfInBounds_toArray, List.set_cons_zero, List.set_cons_succ]
        refine wpAnyH_ready (rs := [26]) (by kernel_rfl) (by simp) ?_
        refine (AllReadyH.cons rfl (fun K hK => ?_) AllReadyH.nil)
        go_simp
        have NERSS3 : w.heap.size ≠ w2.heap.size := Nat.ne_of_lt (Nat.lt_of_lt_of_eq (Blk.lt RSb2) (by simp))
        have RSb3 := Blk.alloc RSb2 (.cells #[.int .u64 0, .int .u64 0] 137)
        have Sb3 : Blk (w2.alloc (.cells #[.int .u64 0, .int .u64 0] 137)) (w2.heap.size) 137 #[.int .u64 0, .int .u64 0] := Blk.new_at (by simp)
        have QGS : w.heap.size ≤ w2.heap.size := Nat.le_trans (Below.size (hb2)) (Nat.le_of_eq (by simp))
        have hb3 := Below.alloc (hb2) (Below.size (hb2)) (.cells #[.int .u64 0, .int .u64 0] 137)
        refine hK.out _ _ (KP.out _ hb3) (fun hH3 => ?_)
        clear hK K hH
        have hH := hH3
        clear hH3
        try simp only [Act.put, List.getElem_toArray, List.getElem_cons_succ, List.getElem_cons_zero, List.setIfInBounds_toArray, List.set_cons_zero, List.set_cons_succ]
        refine wpAnyH_ready (rs := [27]) (by kernel_rfl) (by simp) ?_
        refine (AllReadyH.cons rfl (fun K hK => ?_) AllReadyH.nil)
        go_simp
        have RSb4 := Blk.alloc RSb2 (.cells #[.int .u64 h2, .int .u64 l2] 137)
        have Sb4 : Blk (w2.alloc (.cells #[.int .u64 h2, .int .u64 l2] 137)) (w2.heap.size) 137 #[.int .u64 h2, .int .u64 l2] := Blk.new_at (by simp)
        have hb4 := Below.alloc (hb2) (Below.size (hb2)) (.cells #[.int .u64 h2, .int .u64 l2] 137)
        refine hK.out _ _ (KP.out _ hb4) (fun hH4 => ?_)
        clear hK K hH
        have hH := hH4
        clear hH4
        try simp only [Act.put, List.getElem_toArray, List.getElem_cons_succ, List.getElem_cons_zero, List.setIfInBounds_toArray, List.set_cons_zero, List.set_cons_succ]
        first | (refine wpAnyH_take (i := 28) (v := undef) rfl ?_ ?_ ?_ (fun _ _ _ h => h) ?_ ?_ ?_; kernel_rfl; kernel_rfl; kernel_rfl; exact Or.inr ⟨by rfl, rfl⟩; exact hH) | (refine wpAnyH_take (i := 28) (v := ?_) rfl ?_ ?_ ?_ (fun _ _ _ h => h) ?_ ?_ ?_; rotate_left; kernel_rfl; kernel_rfl; kernel_rfl; (focus (refine Or.inl ⟨by rfl, ?_⟩; intro w' hSw; (try dsimp only at hSw); go_simp)); exact hH) | (refine wpAnyH_take (i := 28) (v := ?_) rfl ?_ ?_ ?_ (fun _ _ _ h => h) ?_ ?_ ?_; rotate_left; kernel_rfl; kernel_rfl; kernel_rfl; (focus (refine Or.inl ⟨by rfl, ?_⟩; intro w' hSw; (try dsimp only at hSw); go_simp; with_reducible rfl)); exact hH)
        try simp only [Act.put, List.getElem_toArray, List.getElem_cons_succ, List.getElem_cons_zero, List.setIfInBounds_toArray, List.set_cons_zero, List.set_cons_succ]
        refine wpAnyH_done (by kernel_rfl) ?_ _
        refine NoPanic.normal ?_
        go_wp2_with fail
        go_meet
        exact ⟨_, rfl, rfl, Sb4, RSb4, hb4⟩
      · skip
        go_simp
        have NERSS5 : w.heap.size ≠ w1.heap.size := Nat.ne_of_lt (Nat.lt_of_lt_of_eq (Blk.lt RSb1) (by simp))
        have RSb5 := Blk.alloc RSb1 (.cells #[.int .u64 0, .int .u64 0] 137)
        have Sb5 : Blk (w1.alloc (.cells #[.int .u64 0, .int .u64 0] 137)) (w1.heap.size) 137 #[.int .u64 0, .int .u64 0] := Blk.new_at (by simp)
        have QGS : w.heap.size ≤ w1.heap.size := Nat.le_trans (Below.size (hb1)) (Nat.le_of_eq (by simp))
        have hb5 := Below.alloc (hb1) (Below.size (hb1)) (.cells #[.int .u64 0, .int .u64 0] 137)
        refine hK.out _ _ (KP.out _ hb5) (fun hH5 => ?_)
        clear hK K hH
        have hH := hH5
        clear hH5
        try simp only [Act.put, List.getElem_toArray, List.getElem_cons_succ, List.getElem_cons_zero, List.setIfInBounds_toArray, List.set_cons_zero, List.set_cons_succ]
        refine wpAnyH_ready (rs := [22]) (by kernel_rfl) (by simp) ?_
        refine (AllReadyH.cons rfl (fun K hK => ?_) AllReadyH.nil)
        go_simp
        with_reducible refine (PL.out _).mono ?_
        rintro e w6 ⟨rfl, hb6'⟩
        have hb6 : Below (w.heap.size) w w6 := below_next hH.2 hb6'
        try go_wp2_with fail
        have RSb6 := Blk.next RSb5 hb6'
        have RSc60 : World.cell? w6 ⟨w.heap.size, 0, none⟩ = some (.int .u64 0) := Blk.get RSb6 0 rfl
        have RSf60 : World.frozen? w6 ⟨w.heap.size, 0, none⟩ = false := Blk.frozen RSb6 0
        have RSc61 : World.cell? w6 ⟨w.heap.size, 1, none⟩ = some (.int .u64 0) := Blk.get RSb6 1 rfl
        have RSf61 : World.frozen? w6 ⟨w.heap.size, 1, none⟩ = false := Blk.frozen RSb6 1
        have RSn6 := Blk.lt RSb6
        have Sb6 := Blk.next Sb5 hb6'
        have Sc60 : World.cell? w6 ⟨w1.heap.size, 0, none⟩ = some (.int .u64 0) := Blk.get Sb6 0 rfl
        have Sf60 : World.frozen? w6 ⟨w1.heap.size, 0, none⟩ = false := Blk.frozen Sb6 0
        have Sc61 : World.cell? w6 ⟨w1.heap.size, 1, none⟩ = some (.int .u64 0) := Blk.get Sb6 1 rfl
        have Sf61 : World.frozen? w6 ⟨w1.heap.size, 1, none⟩ = false := Blk.frozen Sb6 1
        have Sn6 := Blk.lt Sb6
        refine hK.out _ _ (KP.out _ hb6) (fun hH6 => ?_)
        clear hK K hH
        have hH := hH6
        clear hH6
        try simp only [Act.put, List.getElem_toArray, List.getElem_cons_succ, List.getElem_cons_zero, List.setIfInBounds_toArray, List.set_cons_zero, List.set_cons_succ]
        first | (refine wpAnyH_take (i := 23) (v := undef) rfl ?_ ?_ ?_ (fun _ _ _ h => h) ?_ ?_ ?_; kernel_rfl; kernel_rfl; kernel_rfl; exact Or.inr ⟨by rfl, rfl⟩; exact hH) | (refine wpAnyH_take (i := 23) (v := ?_) rfl ?_ ?_ ?_ (fun _ _ _ h => h) ?_ ?_ ?_; rotate_left; kernel_rfl; kernel_rfl; kernel_rfl; (focus (refine Or.inl ⟨by rfl, ?_⟩; intro w' hSw; (try dsimp only at hSw); go_simp)); exact hH) | (refine wpAnyH_take (i := 23) (v := ?_) rfl ?_ ?_ ?_ (fun _ _ _ h => h) ?_ ?_ ?_; rotate_left; kernel_rfl; kernel_rfl; kernel_rfl; (focus (refine Or.inl ⟨by rfl, ?_⟩; intro w' hSw; (try dsimp only at hSw); go_simp; with_reducible rfl)); exact hH)
        try simp only [Act.put, List.getElem_toArray, List.getElem_cons_succ, List.getElem_cons_zero, List.setIfInBounds_toArray, List.set_cons_zero, List.set_cons_succ]
        first | (refine wpAnyH_take (i := 24) (v := undef) rfl ?_ ?_ ?_ (fun _ _ _ h => h) ?_ ?_ ?_; kernel_rfl; kernel_rfl; kernel_rfl; exact Or.inr ⟨by rfl, rfl⟩; exact hH) | (refine wpAnyH_take (i := 24) (v := ?_) rfl ?_ ?_ ?_ (fun _ _ _ h => h) ?_ ?_ ?_; rotate_left; kernel_rfl; kernel_rfl; kernel_rfl; (focus (refine Or.inl ⟨by rfl, ?_⟩; intro w' hSw; (try dsimp only at hSw); go_simp)); exact hH) | (refine wpAnyH_take (i := 24) (v := ?_) rfl ?_ ?_ ?_ (fun _ _ _ h => h) ?_ ?_ ?_; rotate_left; kernel_rfl; kernel_rfl; kernel_rfl; (focus (refine Or.inl ⟨by rfl, ?_⟩; intro w' hSw; (try dsimp only at hSw); go_simp; with_reducible rfl)); exact hH)
        try simp only [Act.put, List.getElem_toArray, List.getElem_cons_succ, List.getElem_cons_zero, List.setIfInBounds_toArray, List.set_cons_zero, List.set_cons_succ]
        first | (refine wpAnyH_take (i := 25) (v := undef) rfl ?_ ?_ ?_ (fun _ _ _ h => h) ?_ ?_ ?_; kernel_rfl; kernel_rfl; kernel_rfl; exact Or.inr ⟨by rfl, rfl⟩; exact hH) | (refine wpAnyH_take (i := 25) (v := ?_) rfl ?_ ?_ ?_ (fun _ _ _ h => h) ?_ ?_ ?_; rotate_left; kernel_rfl; kernel_rfl; kernel_rfl; (focus (refine Or.inl ⟨by rfl, ?_⟩; intro w' hSw; (try dsimp only at hSw); go_simp)); exact hH) | (refine wpAnyH_take (i := 25) (v := ?_) rfl ?_ ?_ ?_ (fun _ _ _ h => h) ?_ ?_ ?_; rotate_left; kernel_rfl; kernel_rfl; kernel_rfl; (focus (refine Or.inl ⟨by rfl, ?_⟩; intro w' hSw; (try dsimp only at hSw); go_simp; with_reducible rfl)); exact hH)
        try simp only [Act.put, List.getElem_toArray, List.getElem_cons_succ, List.getElem_cons_zero, List.setIfInBounds_toArray, List.set_cons_zero, List.set_cons_succ]
        refine wpAnyH_ready (rs := [27]) (by kernel_rfl) (by simp) ?_
        refine (AllReadyH.cons rfl (fun K hK => ?_) AllReadyH.nil)
        go_simp
        have Sb7 := (Blk.put (Blk.put Sb6 0 (.int .u64 h2)) 1 (.int .u64 l2))
        have hb7 : Below (w.heap.size) w _ := (Below.setCell (p := ⟨w1.heap.size, 1, none⟩) (Below.setCell (p := ⟨w1.heap.size, 0, none⟩) hb6 (by show _ ≤ w1.heap.size; first | exact Nat.le_refl _ | exact hH.2.size | (simp only [World.size_alloc, World.size_drew] at *; omega)) (.int .u64 h2)) (by show _ ≤ w1.heap.size; first | exact Nat.le_refl _ | exact hH.2.size | (simp only [World.size_alloc, World.size_drew] at *; omega)) (.int .u64 l2))
        have RSb7 := (Blk.far (Blk.far RSb6 (p := ⟨w1.heap.size, 0, none⟩) (show w.heap.size ≠ w1.heap.size by first | assumption | exact Ne.symm (by assumption) | omega) (.int .u64 h2)) (p := ⟨w1.heap.size, 1, none⟩) (show w.heap.size ≠ w1.heap.size by first | assumption | exact Ne.symm (by assumption) | omega) (.int .u64 l2))
        refine hK.out _ _ (KP.out _ hb7) (fun hH7 => ?_)
        clear hK K hH
        have hH := hH7
        clear hH7
        try simp only [Act.put, List.getElem_toArray, List.getElem_cons_succ, List.getElem_cons_zero, List.setIfInBounds_toArray, List.set_cons_zero, List.set_cons_succ]
        first | (refine wpAnyH_take (i := 28) (v := undef) rfl ?_ ?_ ?_ (fun _ _ _ h => h) ?_ ?_ ?_; kernel_rfl; kernel_rfl; kernel_rfl; exact Or.inr ⟨by rfl, rfl⟩; exact hH) | (refine wpAnyH_take (i := 28) (v := ?_) rfl ?_ ?_ ?_ (fun _ _ _ h => h) ?_ ?_ ?_; rotate_left; kernel_rfl; kernel_rfl; kernel_rfl; (focus (refine Or.inl ⟨by rfl, ?_⟩; intro w' hSw; (try dsimp only at hSw); go_simp)); exact hH) | (refine wpAnyH_take (i := 28) (v := ?_) rfl ?_ ?_ ?_ (fun _ _ _ h => h) ?_ ?_ ?_; rotate_left; kernel_rfl; kernel_rfl; kernel_rfl; (focus (refine Or.inl ⟨by rfl, ?_⟩; intro w' hSw; (try dsimp only at hSw); go_simp; with_reducible rfl)); exact hH)
        try simp only [Act.put, List.getElem_toArray, List.getElem_cons_succ, List.getElem_cons_zero, List.setIfInBounds_toArray, List.set_cons_zero, List.set_cons_succ]
        refine wpAnyH_done (by kernel_rfl) ?_ _
        refine NoPanic.normal ?_
        go_wp2_with fail
        go_meet
        exact ⟨_, rfl, rfl, Sb7, RSb7, hb7⟩
    · skip
      go_simp
      have NERSS8 : w.heap.size ≠ w.heap.size + 1 := Nat.ne_of_lt (Nat.lt_of_lt_of_eq (Blk.lt RSb0) (by simp))
      have RSb8 := Blk.alloc RSb0 (.cells #[.int .u64 0, .int .u64 0] 137)
      have Sb8 : Blk ((w.alloc (.cells #[.int .u64 0, .int .u64 0] 137)).drew.alloc (.cells #[.int .u64 0, .int .u64 0] 137)) (w.heap.size + 1) 137 #[.int .u64 0, .int .u64 0] := Blk.new_at (by simp)
      have QGS : w.heap.size ≤ w.heap.size + 1 := Nat.le_trans (Below.size (hbR)) (Nat.le_of_eq (by simp))
      have hb8 := Below.alloc (hbR) (Below.size (hbR)) (.cells #[.int .u64 0, .int .u64 0] 137)
      refine hK.out _ _ (KP.out _ hb8) (fun hH8 => ?_)
      clear hK K hH
      have hH := hH8
      clear hH8
      try simp only [Act.put, List.getElem_toArray, List.getElem_cons_succ, List.getElem_cons_zero, List.setIfInBounds_toArray, List.set_cons_zero, List.set_cons_succ]
      refine wpAnyH_ready (rs := [13]) (by kernel_rfl) (by simp) ?_
      refine (AllReadyH.cons rfl (fun K hK => ?_) AllReadyH.nil)
      go_simp
      with_reducible refine (WD.out _).mono ?_
      rintro e w9 ⟨rfl, hb9'⟩
      have hb9 : Below (w.heap.size) w w9 := below_next hH.2 hb9'
      try go_wp2_with fail
      have RSb9 := Blk.next RSb8 hb9'
      have RSc90 : World.cell? w9 ⟨w.heap.size, 0, none⟩ = some (.int .u64 0) := Blk.get RSb9 0 rfl
      have RSf90 : World.frozen? w9 ⟨w.heap.size, 0, none⟩ = false := Blk.frozen RSb9 0
      have RSc91 : World.cell? w9 ⟨w.heap.size, 1, none⟩ = some (.int .u64 0) := Blk.get RSb9 1 rfl
      have RSf91 : World.frozen? w9 ⟨w.heap.size, 1, none⟩ = false := Blk.frozen RSb9 1
      have RSn9 := Blk.lt RSb9
      have Sb9 := Blk.next Sb8 hb9'
      have Sc90 : World.cell? w9 ⟨w.heap.size + 1, 0, none⟩ = some (.int .u64 0) := Blk.get Sb9 0 rfl
      have Sf90 : World.frozen? w9 ⟨w.heap.size + 1, 0, none⟩ = false := Blk.frozen Sb9 0
      have Sc91 : World.cell? w9 ⟨w.heap.size + 1, 1, none⟩ = some (.int .u64 0) := Blk.get Sb9 1 rfl
      have Sf91 : World.frozen? w9 ⟨w.heap.size + 1, 1, none⟩ = false := Blk.frozen Sb9 1
      have Sn9 := Blk.lt Sb9
      refine hK.out _ _ (KP.out _ hb9) (fun hH9 => ?_)
      clear hK K hH
      have hH := hH9
      clear hH9
      try simp only [Act.put, List.getElem_toArray, List.getElem_cons_succ, List.getElem_cons_zero, List.setIfInBounds_toArray, List.set_cons_zero, List.set_cons_succ]
      refine wpAnyH_ready (rs := [22]) (by kernel_rfl) (by simp) ?_
      refine (AllReadyH.cons rfl (fun K hK => ?_) AllReadyH.nil)
      go_simp
      with_reducible refine (PL.out _).mono ?_
      rintro e w10 ⟨rfl, hb10'⟩
      have hb10 : Below (w.heap.size) w w10 := below_next hH.2 hb10'
      try go_wp2_with fail
      have RSb10 := Blk.next RSb9 hb10'
      have RSc100 : World.cell? w10 ⟨w.heap.size, 0, none⟩ = some (.int .u64 0) := Blk.get RSb10 0 rfl
      have RSf100 : World.frozen? w10 ⟨w.heap.size, 0, none⟩ = false := Blk.frozen RSb10 0
      have RSc101 : World.cell? w10 ⟨w.heap.size, 1, none⟩ = some (.int .u64 0) := Blk.get RSb10 1 rfl
      have RSf101 : World.frozen? w10 ⟨w.heap.size, 1, none⟩ = false := Blk.frozen RSb10 1
      have RSn10 := Blk.lt RSb10
      have Sb10 := Blk.next Sb9 hb10'
      have Sc100 : World.cell? w10 ⟨w.heap.size + 1, 0, none⟩ = some (.int .u64 0) := Blk.get Sb10 0 rfl
      have Sf100 : World.frozen? w10 ⟨w.heap.size + 1, 0, none⟩ = false := Blk.frozen Sb10 0
      have Sc101 : World.cell? w10 ⟨w.heap.size + 1, 1, none⟩ = some (.int .u64 0) := Blk.get Sb10 1 rfl
      have Sf101 : World.frozen? w10 ⟨w.heap.size + 1, 1, none⟩ = false := Blk.frozen Sb10 1
      have Sn10 := Blk.lt Sb10
      refine hK.out _ _ (KP.out _ hb10) (fun hH10 => ?_)
      clear hK K hH
      have hH := hH10
      clear hH10
      try simp only [Act.put, List.getElem_toArray, List.getElem_cons_succ, List.getElem_cons_zero, List.setIfInBounds_toArray, List.set_cons_zero, List.set_cons_succ]
      first | (refine wpAnyH_take (i := 23) (v := undef) rfl ?_ ?_ ?_ (fun _ _ _ h => h) ?_ ?_ ?_; kernel_rfl; kernel_rfl; kernel_rfl; exact Or.inr ⟨by rfl, rfl⟩; exact hH) | (refine wpAnyH_take (i := 23) (v := ?_) rfl ?_ ?_ ?_ (fun _ _ _ h => h) ?_ ?_ ?_; rotate_left; kernel_rfl; kernel_rfl; kernel_rfl; (focus (refine Or.inl ⟨by rfl, ?_⟩; intro w' hSw; (try dsimp only at hSw); go_simp)); exact hH) | (refine wpAnyH_take (i := 23) (v := ?_) rfl ?_ ?_ ?_ (fun _ _ _ h => h) ?_ ?_ ?_; rotate_left; kernel_rfl; kernel_rfl; kernel_rfl; (focus (refine Or.inl ⟨by rfl, ?_⟩; intro w' hSw; (try dsimp only at hSw); go_simp; with_reducible rfl)); exact hH)
      try simp only [Act.put, List.getElem_toArray, List.getElem_cons_succ, List.getElem_cons_zero, List.setIfInBounds_toArray, List.set_cons_zero, List.set_cons_succ]
      first | (refine wpAnyH_take (i := 24) (v := undef) rfl ?_ ?_ ?_ (fun _ _ _ h => h) ?_ ?_ ?_; kernel_rfl; kernel_rfl; kernel_rfl; exact Or.inr ⟨by rfl, rfl⟩; exact hH) | (refine wpAnyH_take (i := 24) (v := ?_) rfl ?_ ?_ ?_ (fun _ _ _ h => h) ?_ ?_ ?_; rotate_left; kernel_rfl; kernel_rfl; kernel_rfl; (focus (refine Or.inl ⟨by rfl, ?_⟩; intro w' hSw; (try dsimp only at hSw); go_simp)); exact hH) | (refine wpAnyH_take (i := 24) (v := ?_) rfl ?_ ?_ ?_ (fun _ _ _ h => h) ?_ ?_ ?_; rotate_left; kernel_rfl; kernel_rfl; kernel_rfl; (focus (refine Or.inl ⟨by rfl, ?_⟩; intro w' hSw; (try dsimp only at hSw); go_simp; with_reducible rfl)); exact hH)
      try simp only [Act.put, List.getElem_toArray, List.getElem_cons_succ, List.getElem_cons_zero, List.setIfInBounds_toArray, List.set_cons_zero, List.set_cons_succ]
      first | (refine wpAnyH_take (i := 25) (v := undef) rfl ?_ ?_ ?_ (fun _ _ _ h => h) ?_ ?_ ?_; kernel_rfl; kernel_rfl; kernel_rfl; exact Or.inr ⟨by rfl, rfl⟩; exact hH) | (refine wpAnyH_take (i := 25) (v := ?_) rfl ?_ ?_ ?_ (fun _ _ _ h => h) ?_ ?_ ?_; rotate_left; kernel_rfl; kernel_rfl; kernel_rfl; (focus (refine Or.inl ⟨by rfl, ?_⟩; intro w' hSw; (try dsimp only at hSw); go_simp)); exact hH) | (refine wpAnyH_take (i := 25) (v := ?_) rfl ?_ ?_ ?_ (fun _ _ _ h => h) ?_ ?_ ?_; rotate_left; kernel_rfl; kernel_rfl; kernel_rfl; (focus (refine Or.inl ⟨by rfl, ?_⟩; intro w' hSw; (try dsimp only at hSw); go_simp; with_reducible rfl)); exact hH)
      try simp only [Act.put, List.getElem_toArray, List.getElem_cons_succ, List.getElem_cons_zero, List.setIfInBounds_toArray, List.set_cons_zero, List.set_cons_succ]
      refine wpAnyH_ready (rs := [27]) (by kernel_rfl) (by simp) ?_
      refine (AllReadyH.cons rfl (fun K hK => ?_) AllReadyH.nil)
      go_simp
      have Sb11 := (Blk.put (Blk.put Sb10 0 (.int .u64 h2)) 1 (.int .u64 l2))
      have hb11 : Below (w.heap.size) w _ := (Below.setCell (p := ⟨w.heap.size + 1, 1, none⟩) (Below.setCell (p := ⟨w.heap.size + 1, 0, none⟩) hb10 (by show _ ≤ w.heap.size + 1; first | exact Nat.le_refl _ | exact hH.2.size | (simp only [World.size_alloc, World.size_drew] at *; omega)) (.int .u64 h2)) (by show _ ≤ w.heap.size + 1; first | exact Nat.le_refl _ | exact hH.2.size | (simp only [World.size_alloc, World.size_drew] at *; omega)) (.int .u64 l2))
      have RSb11 := (Blk.far (Blk.far RSb10 (p := ⟨w.heap.size + 1, 0, none⟩) (show w.heap.size ≠ w.heap.size + 1 by first | assumption | exact Ne.symm (by assumption) | omega) (.int .u64 h2)) (p := ⟨w.heap.size + 1, 1, none⟩) (show w.heap.size ≠ w.heap.size + 1 by first | assumption | exact Ne.symm (by assumption) | omega) (.int .u64 l2))
      refine hK.out _ _ (KP.out _ hb11) (fun hH11 => ?_)
      clear hK K hH
      have hH := hH11
      clear hH11
      try simp only [Act.put, List.getElem_toArray, List.getElem_cons_succ, List.getElem_cons_zero, List.setIfInBounds_toArray, List.set_cons_zero, List.set_cons_succ]
      first | (refine wpAnyH_take (i := 28) (v := undef) rfl ?_ ?_ ?_ (fun _ _ _ h => h) ?_ ?_ ?_; kernel_rfl; kernel_rfl; kernel_rfl; exact Or.inr ⟨by rfl, rfl⟩; exact hH) | (refine wpAnyH_take (i := 28) (v := ?_) rfl ?_ ?_ ?_ (fun _ _ _ h => h) ?_ ?_ ?_; rotate_left; kernel_rfl; kernel_rfl; kernel_rfl; (focus (refine Or.inl ⟨by rfl, ?_⟩; intro w' hSw; (try dsimp only at hSw); go_simp)); exact hH) | (refine wpAnyH_take (i := 28) (v := ?_) rfl ?_ ?_ ?_ (fun _ _ _ h => h) ?_ ?_ ?_; rotate_left; kernel_rfl; kernel_rfl; kernel_rfl; (focus (refine Or.inl ⟨by rfl, ?_⟩; intro w' hSw; (try dsimp only at hSw); go_simp; with_reducible rfl)); exact hH)
      try simp only [Act.put, List.getElem_toArray, List.getElem_cons_succ, List.getElem_cons_zero, List.setIfInBounds_toArray, List.set_cons_zero, List.set_cons_succ]
      refine wpAnyH_done (by kernel_rfl) ?_ _
      refine NoPanic.normal ?_
      go_wp2_with fail
      go_meet
      exact ⟨_, rfl, rfl, Sb11, RSb11, hb11⟩
  case rest =>
    obtain ⟨q', rfl, rfl, Sb, Rb, B0⟩ := hcut
    have Sc0 : World.cell? wc ⟨q', 0, none⟩ = some (.int .u64 h2) := Sb.get 0 rfl
    have Sc1 : World.cell? wc ⟨q', 1, none⟩ = some (.int .u64 l2) := Sb.get 1 rfl
    have Rc0 : World.cell? wc ⟨w.heap.size, 0, none⟩ = some (.int .u64 0) := Rb.get 0 rfl
    have Rc1 : World.cell? wc ⟨w.heap.size, 1, none⟩ = some (.int .u64 0) := Rb.get 1 rfl
    have Rf0 := Rb.frozen 0
    have Rf1 := Rb.frozen 1
    obtain ⟨P0, P1, P2⟩ := Blk.puts Rb (.int .u64 h2) (.int .u64 l2)
    have HB := Lib.hid B0
    clear Sb Rb B0
    go_wp2_with fail
    refine bodyPost_ret (by simp [results, Tryz.results89, go_sem, P0, P1]; try rfl) rfl ?_
    exact ⟨rfl, (HB.out.setCell (p := ⟨w.heap.size, 0, none⟩) (Nat.le_refl _) _).setCell (p := ⟨w.heap.size, 1, none⟩) (Nat.le_refl _) _⟩

end Go.Proofs.YtjhffbhjiflfeaaGreat
namespace Go.Proofs.YtjhffbhjiflfeaaGreat
set_option linter.unusedVariables false
set_option linter.unusedSimpArgs false
set_option maxRecDepth 100000
open Go.RowKit Go.Shelf

theorem minG_succ {G : Nat → Int} {k : Nat} (hk : 1 ≤ k) : minG G k = min (minG G (k - 1)) (G k) := by
  obtain ⟨j, rfl⟩ : ∃ j, k = j + 1 := ⟨k - 1, by omega⟩
  rfl

set_option maxHeartbeats 4000000 in
theorem rwide_any (q : Nat) (F L R : Int) (m : Nat) (X Y G : Nat → Int) (t V : Int) (w : World) (h : IsCq w q F L R (m + 1) X Y) (my : May F L R) (hm : m + 1 ≤ 1000000) (hx : ∀ i, i ≤ m → 0 ≤ X i ∧ X i ≤ t) (wt : Word t) (hy : ∀ i, i ≤ m → 0 ≤ Y i ∧ Y i ≤ 4611686018427387904)
    (hG : ∀ i, i ≤ m → rawN F L R (t - X i) + Y i = G i) (hV : minG G m = V) :
    Calls Tryz.prog 83 #[.pointer (some ⟨q, 0, none⟩), .int .u64 t] w fun e w' => e = .returned (.agg #[.int .u64 (hiW V), .int .u64 (loW V)]) ∧ Below w.heap.size w w' := by
  have ON := Lib.hid (fun i kk w (hi : i ≤ m) (hk : (i : Int) = kk) hI => rone_any q F L R (m + 1) i X Y kk t (G i) w hI my (by omega) hk hm (hx i hi).1 (hx i hi).2 wt (hy i hi).1 (hy i hi).2 (hG i hi))
  have HI := Lib.hid h
  obtain ⟨A, cA, D, cD, Qb, -, -, -, -⟩ := h.open
  have HQ := Lib.hid Qb
  have hqn := Lib.hid (Blk.lt Qb)
  have HV := Lib.hid hV
  clear h my hx wt hy hG hV Qb
  go_enter Tryz.func83, Tryz.ntmps83
  go_wp2_with fail
  with_reducible refine (ON.out 0 0 _ (Nat.zero_le _) rfl (HI.out.next ((Below.refl _ _).alloc (Nat.le_refl _) _))).mono ?_
  rintro e w1 ⟨rfl, hb1⟩
  have RSm : Blk w1 (w.heap.size) 137 #[.int .u64 0, .int .u64 0] := Blk.next (by repeat (first | (refine Blk.new_at ?_; simp only [World.size_alloc]; done) | (with_reducible refine Blk.alloc ?_ _) | (with_reducible refine Blk.drewN ?_ _))) hb1
  have RSb := RSm
  clear RSm
  have RSc0 : World.cell? w1 ⟨w.heap.size, 0, none⟩ = some (.int .u64 0) := RSb.get 0 rfl
  have RSf0 := Blk.frozen RSb 0
  have RSc1 : World.cell? w1 ⟨w.heap.size, 1, none⟩ = some (.int .u64 0) := RSb.get 1 rfl
  have RSf1 := Blk.frozen RSb 1
  have RSn := Blk.lt RSb
  have B1 : Below w.heap.size w w1 := by first | with_reducible exact hb1 | exact Below.trans (by go_grown) (hb1.mono (by simp only [World.size_alloc]; omega))
  clear hb1
  have HB := Lib.hid B1
  have HR := Lib.hid RSb
  have hs1 := Lib.hid RSn
  go_wp2_with fail
  clear RSb RSc0 RSc1 RSf0 RSf1 RSn B1
  go_loopg [6] m (fun gk ix wr => ∃ k : Nat, 1 ≤ k ∧ k + gk = m + 1 ∧ ix = .int .i64 k ∧ Blk wr w1.heap.size 137 #[.int .u64 (hiW (minG G (k - 1))), .int .u64 (loW (minG G (k - 1)))] ∧ Blk wr w.heap.size 137 #[.int .u64 0, .int .u64 0] ∧ Below w.heap.size w wr)
  case atStart => exact ⟨1, Nat.le_refl _, by omega, rfl, Blk.new w1 _ _, HR.out.alloc _, HB.out.alloc HB.out.size _⟩
  case round =>
    obtain ⟨k, hk1, hk, rfl, Sb, Rb, B0⟩ := hrel
    clear HR HB
    have Qw := Blk.below HQ.out B0 hqn.out
    have Qc3 : World.cell? wr ⟨q, 3, none⟩ = some (.slice A (m + 1) cA) := Qw.get 3 rfl
    have HS := Lib.hid Sb
    have HR := Lib.hid Rb
    have HB := Lib.hid B0
    have k1 : (1 : Int) ≤ (k : Int) := by omega
    have m0 : (m : Int) + 1 ≤ 1000000 := by omega
    clear Sb Rb B0 Qw
    by_cases hlt : k < m + 1
    · obtain ⟨gm, rfl⟩ : ∃ gm, gk = gm + 1 := ⟨gk - 1, by omega⟩
      have hlt' : (k : Int) < (m : Int) + 1 := by omega
      have EM := Lib.hid (show minG G (k + 1 - 1) = min (minG G (k - 1)) (G k) from by rw [Nat.add_sub_cancel]; exact minG_succ hk1)
      have O1 := Lib.hid (fun w hI => ON.out k k w (by omega) rfl hI)
      obtain ⟨a, ea⟩ : ∃ z, minG G (k - 1) = z := ⟨_, rfl⟩
      obtain ⟨b, eb⟩ : ∃ z, G k = z := ⟨_, rfl⟩
      rw [ea] at EM HS
      rw [eb] at EM O1
      have HIw := Lib.hid (HI.out.next HB.out)
      obtain ⟨h1, e1⟩ : ∃ z, hiW a = z := ⟨_, rfl⟩
      obtain ⟨l1, e2⟩ : ∃ z, loW a = z := ⟨_, rfl⟩
      obtain ⟨h2, e3⟩ : ∃ z, hiW b = z := ⟨_, rfl⟩
      obtain ⟨l2, e4⟩ : ∃ z, loW b = z := ⟨_, rfl⟩
      rw [e1, e2] at HS
      rw [e3, e4] at O1
      have CM := Lib.hid (fun k w hk => refcmp_w b a k w hk)
      rw [e1, e2, e3, e4] at CM
      clear ea eb hlt
      by_cases hab : b < a
      · have C1 := Lib.hid (fun w => CM.out (-1) w (cmpN_lt hab))
        have EM2 : Hid (minG G (k + 1 - 1) = b) := by unfold Hid; rw [EM.out]; exact Int.min_eq_right (by omega)
        clear hab EM CM
        have Sb : Blk wr (w1.heap.size) 137 #[.int .u64 h1, .int .u64 l1] := HS.out
        have Sc0 : World.cell? wr ⟨w1.heap.size, 0, none⟩ = some (.int .u64 h1) := Sb.get 0 rfl
        have Sf0 := Blk.frozen Sb 0
        have Sc1 : World.cell? wr ⟨w1.heap.size, 1, none⟩ = some (.int .u64 l1) := Sb.get 1 rfl
        have Sf1 := Blk.frozen Sb 1
        have Sn := Blk.lt Sb
        have B10 : Below wr.heap.size wr wr := Below.refl _ _
        go_wp2_with fail
        with_reducible refine (O1.out _ HIw.out).mono ?_
        rintro e w11 ⟨rfl, hb11⟩
        have Sm : Blk w11 (w1.heap.size) 137 #[.int .u64 h1, .int .u64 l1] := Blk.next (by repeat (first | (with_reducible exact Sb) | (refine Blk.new_at ?_; simp only [World.size_alloc]; done) | (with_reducible refine Blk.alloc ?_ _) | (with_reducible refine Blk.drewN ?_ _))) hb11
        clear Sn Sb Sc0 Sf0 Sc1 Sf1
        have Sb := Sm
        clear Sm
        have Sc0 : World.cell? w11 ⟨w1.heap.size, 0, none⟩ = some (.int .u64 h1) := Sb.get 0 rfl
        have Sf0 := Blk.frozen Sb 0
        have Sc1 : World.cell? w11 ⟨w1.heap.size, 1, none⟩ = some (.int .u64 l1) := Sb.get 1 rfl
        have Sf1 := Blk.frozen Sb 1
        have Sn := Blk.lt Sb
        have B11 : Below wr.heap.size wr w11 := by first | with_reducible exact below_next B10 hb11 | exact below_step B10 (by go_grown) hb11
        clear hb11 B10
        go_wp2_with fail
        with_reducible refine (C1.out _).mono ?_
        rintro e w12 ⟨rfl, hb12⟩
        have Sm : Blk w12 (w1.heap.size) 137 #[.int .u64 h1, .int .u64 l1] := Blk.next (by repeat (first | (with_reducible exact Sb) | (refine Blk.new_at ?_; simp only [World.size_alloc]; done) | (with_reducible refine Blk.alloc ?_ _) | (with_reducible refine Blk.drewN ?_ _))) hb12
        clear Sn Sb Sc0 Sf0 Sc1 Sf1
        have Sb := Sm
        clear Sm
        have Sc0 : World.cell? w12 ⟨w1.heap.size, 0, none⟩ = some (.int .u64 h1) := Sb.get 0 rfl
        have Sf0 := Blk.frozen Sb 0
        have Sc1 : World.cell? w12 ⟨w1.heap.size, 1, none⟩ = some (.int .u64 l1) := Sb.get 1 rfl
        have Sf1 := Blk.frozen Sb 1
        have Sn := Blk.lt Sb
        have Zm : Blk w12 (w11.heap.size) 137 #[.int .u64 h2, .int .u64 l2] := Blk.next (by repeat (first | (refine Blk.new_at ?_; simp only [World.size_alloc]; done) | (with_reducible refine Blk.alloc ?_ _) | (with_reducible refine Blk.drewN ?_ _))) hb12
        have Zb := Zm
        clear Zm
        have Zc0 : World.cell? w12 ⟨w11.heap.size, 0, none⟩ = some (.int .u64 h2) := Zb.get 0 rfl
        have Zf0 := Blk.frozen Zb 0
        have Zc1 : World.cell? w12 ⟨w11.heap.size, 1, none⟩ = some (.int .u64 l2) := Zb.get 1 rfl
        have Zf1 := Blk.frozen Zb 1
        have Zn := Blk.lt Zb
        have B12 : Below wr.heap.size wr w12 := by first | with_reducible exact below_next B11 hb12 | exact below_step B11 (by go_grown) hb12
        clear hb12 B11
        obtain ⟨P0, P1, P2⟩ := Blk.puts Sb (.int .u64 h2) (.int .u64 l2)
        have HP := Lib.hid P2
        have hsz := Lib.hid B12.size
        clear P2
        go_wp2_with fail
        go_roundg gm
        case rel =>
          refine ⟨k + 1, by omega, by omega, by go_num, ?_, ?_, ?_⟩
          · rw [EM2.out, e3, e4]; exact HP.out
          · exact Blk.far (Blk.far (HR.out.next B12) (p := ⟨w1.heap.size, 0, none⟩) (show w.heap.size ≠ w1.heap.size by have := hs1.out; omega) _) (p := ⟨w1.heap.size, 1, none⟩) (show w.heap.size ≠ w1.heap.size by have := hs1.out; omega) _
          · exact ((below_next HB.out B12).setCell (p := ⟨w1.heap.size, 0, none⟩) (show w.heap.size ≤ w1.heap.size by have := hs1.out; omega) _).setCell (p := ⟨w1.heap.size, 1, none⟩) (show w.heap.size ≤ w1.heap.size by have := hs1.out; omega) _
        case measure => omega
      · have c0 : 0 ≤ cmpN b a := by unfold cmpN; rw [if_neg hab]; split <;> omega
        obtain ⟨c, ec⟩ : ∃ c, cmpN b a = c := ⟨_, rfl⟩
        rw [ec] at c0
        have c1 : decide (c < 0) = false := decide_eq_false (by omega)
        clear c0
        have C1 := Lib.hid (fun w => CM.out c w ec)
        have EM2 : Hid (minG G (k + 1 - 1) = a) := by unfold Hid; rw [EM.out]; exact Int.min_eq_left (by omega)
        clear hab EM CM ec
        have Sb : Blk wr (w1.heap.size) 137 #[.int .u64 h1, .int .u64 l1] := HS.out
        have Sc0 : World.cell? wr ⟨w1.heap.size, 0, none⟩ = some (.int .u64 h1) := Sb.get 0 rfl
        have Sf0 := Blk.frozen Sb 0
        have Sc1 : World.cell? wr ⟨w1.heap.size, 1, none⟩ = some (.int .u64 l1) := Sb.get 1 rfl
        have Sf1 := Blk.frozen Sb 1
        have Sn := Blk.lt Sb
        have B10 : Below wr.heap.size wr wr := Below.refl _ _
        go_wp2_with fail
        with_reducible refine (O1.out _ HIw.out).mono ?_
        rintro e w11 ⟨rfl, hb11⟩
        have Sm : Blk w11 (w1.heap.size) 137 #[.int .u64 h1, .int .u64 l1] := Blk.next (by repeat (first | (with_reducible exact Sb) | (refine Blk.new_at ?_; simp only [World.size_alloc]; done) | (with_reducible refine Blk.alloc ?_ _) | (with_reducible refine Blk.drewN ?_ _))) hb11
        clear Sn Sb Sc0 Sf0 Sc1 Sf1
        have Sb := Sm
        clear Sm
        have Sc0 : World.cell? w11 ⟨w1.heap.size, 0, none⟩ = some (.int .u64 h1) := Sb.get 0 rfl
        have Sf0 := Blk.frozen Sb 0
        have Sc1 : World.cell? w11 ⟨w1.heap.size, 1, none⟩ = some (.int .u64 l1) := Sb.get 1 rfl
        have Sf1 := Blk.frozen Sb 1
        have Sn := Blk.lt Sb
        have B11 : Below wr.heap.size wr w11 := by first | with_reducible exact below_next B10 hb11 | exact below_step B10 (by go_grown) hb11
        clear hb11 B10
        go_wp2_with fail
        with_reducible refine (C1.out _).mono ?_
        rintro e w12 ⟨rfl, hb12⟩
        have Sm : Blk w12 (w1.heap.size) 137 #[.int .u64 h1, .int .u64 l1] := Blk.next (by repeat (first | (with_reducible exact Sb) | (refine Blk.new_at ?_; simp only [World.size_alloc]; done) | (with_reducible refine Blk.alloc ?_ _) | (with_reducible refine Blk.drewN ?_ _))) hb12
        clear Sn Sb Sc0 Sf0 Sc1 Sf1
        have Sb := Sm
        clear Sm
        have Sc0 : World.cell? w12 ⟨w1.heap.size, 0, none⟩ = some (.int .u64 h1) := Sb.get 0 rfl
        have Sf0 := Blk.frozen Sb 0
        have Sc1 : World.cell? w12 ⟨w1.heap.size, 1, none⟩ = some (.int .u64 l1) := Sb.get 1 rfl
        have Sf1 := Blk.frozen Sb 1
        have Sn := Blk.lt Sb
        have Zm : Blk w12 (w11.heap.size) 137 #[.int .u64 h2, .int .u64 l2] := Blk.next (by repeat (first | (refine Blk.new_at ?_; simp only [World.size_alloc]; done) | (with_reducible refine Blk.alloc ?_ _) | (with_reducible refine Blk.drewN ?_ _))) hb12
        have Zb := Zm
        clear Zm
        have Zc0 : World.cell? w12 ⟨w11.heap.size, 0, none⟩ = some (.int .u64 h2) := Zb.get 0 rfl
        have Zf0 := Blk.frozen Zb 0
        have Zc1 : World.cell? w12 ⟨w11.heap.size, 1, none⟩ = some (.int .u64 l2) := Zb.get 1 rfl
        have Zf1 := Blk.frozen Zb 1
        have Zn := Blk.lt Zb
        have B12 : Below wr.heap.size wr w12 := by first | with_reducible exact below_next B11 hb12 | exact below_step B11 (by go_grown) hb12
        clear hb12 B11
        have HP := Lib.hid Sb
        go_wp2_with fail
        go_roundg gm
        case rel => exact ⟨k + 1, by omega, by omega, by go_num, by rw [EM2.out, e1, e2]; exact HP.out, HR.out.next B12, below_next HB.out B12⟩
        case measure => omega
    · obtain rfl : gk = 0 := by omega
      obtain rfl : k = m + 1 := by omega
      have e0 : minG G (m + 1 - 1) = V := HV.out
      rw [e0] at HS
      have Sc0 : World.cell? wr ⟨w1.heap.size, 0, none⟩ = some (.int .u64 (hiW V)) := HS.out.get 0 rfl
      have Sc1 : World.cell? wr ⟨w1.heap.size, 1, none⟩ = some (.int .u64 (loW V)) := HS.out.get 1 rfl
      have Rc0 : World.cell? wr ⟨w.heap.size, 0, none⟩ = some (.int .u64 0) := HR.out.get 0 rfl
      have Rc1 : World.cell? wr ⟨w.heap.size, 1, none⟩ = some (.int .u64 0) := HR.out.get 1 rfl
      have Rf0 := HR.out.frozen 0
      have Rf1 := HR.out.frozen 1
      obtain ⟨P0, P1, P2⟩ := Blk.puts HR.out (.int .u64 (hiW V)) (.int .u64 (loW V))
      clear e0 P2
      go_wp2_with fail
      refine bodyPost_ret (by simp [results, Tryz.results83, go_sem, P0, P1]; try rfl) rfl ?_
      exact ⟨rfl, (HB.out.setCell (p := ⟨w.heap.size, 0, none⟩) (Nat.le_refl _) _).setCell (p := ⟨w.heap.size, 1, none⟩) (Nat.le_refl _) _⟩

theorem rat_none (q : Nat) (F L R : Int) (X Y : Nat → Int) (t : Int) (w : World) (h : IsCq w q F L R 0 X Y) :
    Calls Tryz.prog 71 #[.pointer (some ⟨q, 0, none⟩), .int .u64 t] w fun e w' => e = .returned (.int .u64 0) ∧ Below w.heap.size w w' := by
  obtain ⟨A, cA, D, cD, Qb, -, -, -, -⟩ := h.open
  have Qc3 : World.cell? w ⟨q, 3, none⟩ = some (.slice A 0 cA) := Qb.get 3 rfl
  clear Qb h
  go_enter Tryz.func71, Tryz.ntmps71
  go_wp2_with fail
  go_ret
  exact ⟨rfl, Below.refl _ _⟩
theorem rat_any (q : Nat) (F L R : Int) (m : Nat) (X Y : Nat → Int) (t V s : Int) (w : World) (h : IsCq w q F L R (m + 1) X Y) (my : May F L R) (hm : m + 1 ≤ 1000000) (hx : ∀ i, i ≤ m → 0 ≤ X i ∧ X i ≤ X m) (hx1 : X m ≤ 9223372036854775808) (wt : Word t) (hy : ∀ i, i ≤ m → 0 ≤ Y i ∧ Y i ≤ 4611686018427387904)
    (hV : minG (fun i => rawN F L R (max t (X m) - X i) + Y i) m = V) (hs : stopN V = s) :
    Calls Tryz.prog 71 #[.pointer (some ⟨q, 0, none⟩), .int .u64 t] w fun e w' => e = .returned (.int .u64 s) ∧ Below w.heap.size w w' := by
  have wt1 := wt.1
  have wt2 := wt.2
  have V0 : 0 ≤ V := by
    obtain ⟨i, hi, e⟩ := minG_is (fun i => rawN F L R (max t (X m) - X i) + Y i) m
    have := hx i hi
    have := raw_nonneg (t := max t (X m) - X i) my.f0 my.l0 my.r0 (by omega)
    have := (hy i hi).1
    rw [hV] at e
    try simp only at e
    omega
  have LA := Lib.hid (fun w hI => rlast_any q F L R (m + 1) X Y (X m) w hI hm rfl)
  have WI := Lib.hid (fun w hI => rwide_any q F L R m X Y _ (max t (X m)) V w hI my hm (fun i hi => ⟨(hx i hi).1, by have := (hx i hi).2; omega⟩) ⟨by omega, by omega⟩ hy (fun i _ => rfl) hV)
  have ST := Lib.hid (fun w => refstop_w V s w V0 hs)
  have HI := Lib.hid h
  obtain ⟨A, cA, D, cD, Qb, -, -, -, -⟩ := h.open
  have Qc3 : World.cell? w ⟨q, 3, none⟩ = some (.slice A (m + 1) cA) := Qb.get 3 rfl
  have e0 : ((m : Int) + 1 == 0) = false := beq_eq_false_iff_ne.2 (by omega)
  have m1 : (m : Int) + 1 ≤ 1000000 := by omega
  clear h my hx wt hy hV hs Qb V0
  go_enter Tryz.func71, Tryz.ntmps71
  go_wp2_with fail
  with_reducible refine (LA.out _ HI.out).mono ?_
  rintro e w1 ⟨rfl, hb1⟩
  replace HI := Lib.hid (HI.out.next hb1)
  have B1 : Below w.heap.size w w1 := by first | with_reducible exact hb1 | exact Below.trans (by go_grown) (hb1.mono (by simp only [World.size_alloc]; omega))
  clear hb1
  go_wp2_with fail
  with_reducible refine (WI.out _ HI.out).mono ?_
  rintro e w2 ⟨rfl, hb2⟩
  replace HI := Lib.hid (HI.out.next hb2)
  have B2 : Below w.heap.size w w2 := by first | with_reducible exact below_next B1 hb2 | exact below_step B1 (by go_grown) hb2
  clear hb2 B1
  go_wp2_with fail
  with_reducible refine (ST.out _).mono ?_
  rintro e w3 ⟨rfl, hb3⟩
  replace HI := Lib.hid (HI.out.next hb3)
  have B3 : Below w.heap.size w w3 := by first | with_reducible exact below_next B2 hb3 | exact below_step B2 (by go_grown) hb3
  clear hb3 B2
  go_wp2_with fail
  go_ret
  exact ⟨by simp, B3⟩

set_option maxHeartbeats 4000000 in
/-- Found by halves. -/
theorem rreach_any (q : Nat) (F L R : Int) (m : Nat) (X Y : Nat → Int) (y r : Int) (f : Int → Int) (w : World) (h : IsCq w q F L R (m + 1) X Y) (hm : m + 1 ≤ 1000000) (wy : Word y) (hx0 : 0 ≤ X m) (hx1 : X m ≤ 9223372036854775808)
    (hat : ∀ w t, IsCq w q F L R (m + 1) X Y → Word t → Calls Tryz.prog 71 #[.pointer (some ⟨q, 0, none⟩), .int .u64 t] w fun e w' => e = .returned (.int .u64 (f t)) ∧ Below w.heap.size w w')
    (hr0 : X m ≤ r) (hr1 : r ≤ 9223372036854775808) (hr : ∀ t, X m ≤ t → t < 9223372036854775808 → (y ≤ f t ↔ r ≤ t)) (hn : X m = 9223372036854775808 → r = 9223372036854775808) :
    Calls Tryz.prog 63 #[.pointer (some ⟨q, 0, none⟩), .int .u64 y] w fun e w' => e = .returned (.int .u64 r) ∧ Below w.heap.size w w' := by
  have LA := Lib.hid (fun w hI => rlast_any q F L R (m + 1) X Y (X m) w hI hm rfl)
  have AT := Lib.hid hat
  have A0 := Lib.hid (fun w hI => hat w 9223372036854775807 hI ⟨by decide, by decide⟩)
  have HI := Lib.hid h
  obtain ⟨A, cA, D, cD, Qb, -, -, -, -⟩ := h.open
  have Qc3 : World.cell? w ⟨q, 3, none⟩ = some (.slice A (m + 1) cA) := Qb.get 3 rfl
  have e0 : ((m : Int) + 1 == 0) = false := beq_eq_false_iff_ne.2 (by omega)
  have m1 : (m : Int) + 1 ≤ 1000000 := by omega
  have hq := Lib.hid (Blk.lt Qb)
  have HR := Lib.hid hr
  have HN := Lib.hid hn
  have h0 := hr 9223372036854775807
  obtain ⟨v0, ev0⟩ : ∃ v, f 9223372036854775807 = v := ⟨_, rfl⟩
  rw [ev0] at A0 h0
  obtain ⟨x, ex⟩ : ∃ x, X m = x := ⟨_, rfl⟩
  rw [ex] at LA HR HN h0 hr0 hx0 hx1
  clear h hat hr hn Qb ev0 ex
  by_cases hv : v0 < y
  · have er : r = 9223372036854775808 := by
      rcases Int.lt_or_le x 9223372036854775808 with c | c
      · have := h0 (by omega) (by omega); omega
      · exact HN.out (by omega)
    have ER := Lib.hid er
    clear h0 er HR HN
    go_enter Tryz.func63, Tryz.ntmps63
    go_wp2_with fail
    with_reducible refine (A0.out _ HI.out).mono ?_
    rintro e w1 ⟨rfl, hb1⟩
    replace HI := Lib.hid (HI.out.next hb1)
    have B1 : Below w.heap.size w w1 := by first | with_reducible exact hb1 | exact Below.trans (by go_grown) (hb1.mono (by simp only [World.size_alloc]; omega))
    clear hb1
    go_wp2_with fail
    go_ret
    exact ⟨by simp [ER.out], B1⟩
  · have hv' : y ≤ v0 := by omega
    have hvb : decide (v0 < y) = false := decide_eq_false hv
    have h1 : r ≤ 9223372036854775807 ∨ x = 9223372036854775808 := by
      rcases Int.lt_or_le x 9223372036854775808 with c | c
      · left; exact (h0 (by omega) (by omega)).1 (by omega)
      · right; omega
    clear h0 hv hv'
    by_cases hxn : x = 9223372036854775808
    · have ER := Lib.hid (HN.out hxn)
      have hx2 : decide (x < 9223372036854775807) = false := decide_eq_false (by omega)
      have EX := Lib.hid hxn
      clear h1 HR HN hxn
      go_enter Tryz.func63, Tryz.ntmps63
      go_wp2_with fail
      with_reducible refine (A0.out _ HI.out).mono ?_
      rintro e w1 ⟨rfl, hb1⟩
      replace HI := Lib.hid (HI.out.next hb1)
      have B1 : Below w.heap.size w w1 := by first | with_reducible exact hb1 | exact Below.trans (by go_grown) (hb1.mono (by simp only [World.size_alloc]; omega))
      clear hb1
      go_wp2_with fail
      with_reducible refine (LA.out _ HI.out).mono ?_
      rintro e w2 ⟨rfl, hb2⟩
      replace HI := Lib.hid (HI.out.next hb2)
      have B2 : Below w.heap.size w w2 := by first | with_reducible exact below_next B1 hb2 | exact below_step B1 (by go_grown) hb2
      clear hb2 B1
      have HB := Lib.hid B2
      clear B2
      go_wp2_with fail
      go_loopg [5, 6] 0 (fun gk lo hi wr => gk = 0 ∧ lo = .int .u64 x ∧ hi = .int .u64 9223372036854775807 ∧ Below w.heap.size w wr)
      case atStart => exact ⟨rfl, rfl, rfl, HB.out⟩
      case round =>
        obtain ⟨rfl, rfl, rfl, B0⟩ := hrel
        have HB0 := Lib.hid B0
        clear B0 HB
        go_wp2_with fail
        go_ret
        exact ⟨by simp [ER.out, EX.out], HB0.out⟩
    · have hr2 : r ≤ 9223372036854775807 := h1.resolve_right hxn
      clear h1 HN hxn
      go_enter Tryz.func63, Tryz.ntmps63
      go_wp2_with fail
      with_reducible refine (A0.out _ HI.out).mono ?_
      rintro e w1 ⟨rfl, hb1⟩
      replace HI := Lib.hid (HI.out.next hb1)
      have B1 : Below w.heap.size w w1 := by first | with_reducible exact hb1 | exact Below.trans (by go_grown) (hb1.mono (by simp only [World.size_alloc]; omega))
      clear hb1
      go_wp2_with fail
      with_reducible refine (LA.out _ HI.out).mono ?_
      rintro e w2 ⟨rfl, hb2⟩
      replace HI := Lib.hid (HI.out.next hb2)
      have B2 : Below w.heap.size w w2 := by first | with_reducible exact below_next B1 hb2 | exact below_step B1 (by go_grown) hb2
      clear hb2 B1
      have HB := Lib.hid B2
      clear B2 A0 LA
      go_wp2_with fail
      go_loopg [5, 6] (9223372036854775807 - x).toNat (fun gk lo hi wr => ∃ a b : Int, (b - a).toNat = gk ∧ lo = .int .u64 a ∧ hi = .int .u64 b ∧ x ≤ a ∧ a ≤ r ∧ r ≤ b ∧ b ≤ 9223372036854775807 ∧ IsCq wr q F L R (m + 1) X Y ∧ Below w.heap.size w wr)
      case atStart => exact ⟨x, _, rfl, rfl, rfl, by omega, by omega, hr2, by omega, HI.out, HB.out⟩
      case round =>
        obtain ⟨a, b, hgk, rfl, rfl, g1, g2, g3, g4, hI, B0⟩ := hrel
        clear HI HB
        have HI := Lib.hid hI
        have HB := Lib.hid B0
        have HG := Lib.hid hgk
        clear hI B0 hgk
        by_cases hab : a < b
        · have d0 : 0 ≤ (b - a) / 2 := by omega
          obtain ⟨mid, emid⟩ : ∃ z, a + (b - a) / 2 = z := ⟨_, rfl⟩
          have q1 : a ≤ mid := by omega
          have q2 : mid < b := by omega
          have A1 := Lib.hid (fun w hI => AT.out w mid hI ⟨by omega, by omega⟩)
          have hmid := HR.out mid (by omega) (by omega)
          obtain ⟨v, ev⟩ : ∃ v, f mid = v := ⟨_, rfl⟩
          rw [ev] at A1 hmid
          clear ev
          by_cases hyv : y ≤ v
          · have q3 := hmid.1 hyv
            clear hmid
            have B10 : Below wr.heap.size wr wr := Below.refl _ _
            go_wp2_with fail
            with_reducible refine (A1.out _ HI.out).mono ?_
            rintro e w11 ⟨rfl, hb11⟩
            replace HI := Lib.hid (HI.out.next hb11)
            have B11 : Below wr.heap.size wr w11 := by first | with_reducible exact below_next B10 hb11 | exact below_step B10 (by go_grown) hb11
            clear hb11 B10
            go_wp2_with fail
            go_roundg (mid - a).toNat
            case rel => exact ⟨a, mid, rfl, rfl, rfl, g1, g2, q3, by omega, HI.out, below_next HB.out B11⟩
            case measure => have := HG.out; omega
          · have q3 : mid < r := by omega
            have hyv' : decide (y ≤ v) = false := decide_eq_false hyv
            clear hmid hyv
            have B10 : Below wr.heap.size wr wr := Below.refl _ _
            go_wp2_with fail
            with_reducible refine (A1.out _ HI.out).mono ?_
            rintro e w11 ⟨rfl, hb11⟩
            replace HI := Lib.hid (HI.out.next hb11)
            have B11 : Below wr.heap.size wr w11 := by first | with_reducible exact below_next B10 hb11 | exact below_step B10 (by go_grown) hb11
            clear hb11 B10
            go_wp2_with fail
            go_roundg (b - (mid + 1)).toNat
            case rel => exact ⟨mid + 1, b, rfl, rfl, rfl, by omega, by omega, g3, g4, HI.out, below_next HB.out B11⟩
            case measure => have := HG.out; omega
        · obtain rfl : a = r := by omega
          have hba : decide (a < b) = false := decide_eq_false hab
          clear hab
          go_wp2_with fail
          go_ret
          exact ⟨rfl, HB.out⟩

theorem rreach_none (q : Nat) (F L R : Int) (X Y : Nat → Int) (y v : Int) (w : World) (h : IsCq w q F L R 0 X Y) (hv : (if y = 0 then 0 else 9223372036854775808) = v) :
    Calls Tryz.prog 63 #[.pointer (some ⟨q, 0, none⟩), .int .u64 y] w fun e w' => e = .returned (.int .u64 v) ∧ Below w.heap.size w w' := by
  obtain ⟨A, cA, D, cD, Qb, -, -, -, -⟩ := h.open
  have Qc3 : World.cell? w ⟨q, 3, none⟩ = some (.slice A 0 cA) := Qb.get 3 rfl
  clear Qb h
  by_cases h : y = 0
  · rw [if_pos h] at hv
    subst hv h
    go_enter Tryz.func63, Tryz.ntmps63
    go_wp2_with fail
    go_ret
    exact ⟨rfl, Below.refl _ _⟩
  · rw [if_neg h] at hv
    subst hv
    have z : (y == 0) = false := beq_eq_false_iff_ne.2 h
    clear h
    go_enter Tryz.func63, Tryz.ntmps63
    go_wp2_with fail
    go_ret
    exact ⟨rfl, Below.refl _ _⟩

end Go.Proofs.YtjhffbhjiflfeaaGreat
