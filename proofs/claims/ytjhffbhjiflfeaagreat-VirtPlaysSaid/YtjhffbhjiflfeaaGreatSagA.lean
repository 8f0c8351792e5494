/-
  Sagging runs in memory: what a copy has, its line.
-/
import Derived.Test.YtjhffbhjiflfeaaGreatSagP
import Derived.Test.YtjhffbhjiflfeaaGreatBentRefP
import Derived.Test.YtjhffbhjiflfeaaGreatBentB
namespace Go.Proofs.YtjhffbhjiflfeaaGreat
set_option linter.unusedVariables false
set_option linter.unusedSimpArgs false
set_option maxRecDepth 100000
open Go.RowKit Go.Shelf

/-- A sagging run's block. -/
def IsSag (w : World) (q : Nat) (F L R n x : Int) (kv : Value) : Prop := Blk w q 123 #[.int .u64 F, .int .u64 L, .int .u64 R, .bool true, .int .i64 n, .int .u64 x, kv]

theorem wmul_w (a b : Int) (w : World) (ha : Word a) (hb : Word b) : Calls Tryz.prog 125 #[.int .u64 a, .int .u64 b] w fun e w' => e = .returned (.agg #[.int .u64 (hiW (a * b)), .int .u64 (loW (a * b))]) ∧ Below w.heap.size w w' := mul_any a b w ha hb
theorem wplus_w (a b h l : Int) (w : World) (ha : 0 ≤ a) (hb : 0 ≤ b) (hs : a + b < 340282366920938463463374607431768211456) (eh : hiW b = h) (el : loW b = l) :
    Calls Tryz.prog 147 #[.agg #[.int .u64 (hiW a), .int .u64 (loW a)], .agg #[.int .u64 h, .int .u64 l]] w fun e w' => e = .returned (.tuple #[.agg #[.int .u64 (hiW (a + b)), .int .u64 (loW (a + b))], .int .i64 0]) ∧ Below w.heap.size w w' := by
  subst eh el
  have wa := hiW_word ha (by omega)
  have wb := hiW_word hb (by omega)
  have p := wplus_any (hiW a) (loW a) (hiW b) (loW b) w wa.1 wa.2 wb.1 wb.2
  have e : (hiW a + hiW b) * 18446744073709551616 + loW a + loW b = a + b := by unfold hiW loW; omega
  have e2 : (loW a + loW b) % 18446744073709551616 = loW (a + b) := by unfold loW; omega
  unfold plusH plusL plusE at p
  rw [e, if_neg (by omega), if_neg (by omega), if_neg (by omega), e2] at p
  exact p
theorem wcmp_w (a b k : Int) (w : World) (ek : cmpN a b = k) : Calls Tryz.prog 142 #[.agg #[.int .u64 (hiW a), .int .u64 (loW a)], .agg #[.int .u64 (hiW b), .int .u64 (loW b)]] w fun e w' => e = .returned (.int .i64 k) ∧ Below w.heap.size w w' := by
  have x := wv_split a
  have y := wv_split b
  have := cmp_any (a / 18446744073709551616) (a % 18446744073709551616) (b / 18446744073709551616) (b % 18446744073709551616) w
  rw [cmpW_words _ _ _ _ x.2 y.2, x.1, y.1, ek] at this
  exact this
theorem mul_fits {a b : Int} (ha : 0 ≤ a) (ha1 : a ≤ 1048576) (hb : 0 ≤ b) (hb1 : b ≤ 9223372036854775808) : 0 ≤ a * b ∧ a * b ≤ 9671406556917033397649408 := by
  refine ⟨Int.mul_nonneg ha hb, ?_⟩
  exact Int.le_trans (Int.mul_le_mul ha1 hb1 hb (by decide)) (by decide)

set_option maxHeartbeats 4000000 in
theorem sline_any (q : Nat) (F L R n x : Int) (kv : Value) (kx ky t V : Int) (w : World) (h : IsSag w q F L R n x kv) (my : May F L R) (hx : 0 ≤ kx) (ht : kx ≤ t) (ht1 : t ≤ 9223372036854775808) (hy0 : 0 ≤ ky) (hy1 : ky ≤ 4611686018427387904)
    (hV : R * (t - kx) + ky = V) :
    Calls Tryz.prog 143 #[.pointer (some ⟨q, 0, none⟩), .agg #[.int .u64 kx, .int .u64 ky], .int .u64 t] w fun e w' => e = .returned (.agg #[.int .u64 (hiW V), .int .u64 (loW V)]) ∧ Below w.heap.size w w' := by
  have mf := mul_fits my.r0 my.r1 (show 0 ≤ t - kx by omega) (show t - kx ≤ 9223372036854775808 by omega)
  have M1 := Lib.hid (fun w => wmul_w R (t - kx) w ⟨my.r0, by have := my.r1; omega⟩ ⟨by omega, by omega⟩)
  have sm := hiW_small (x := ky) ⟨hy0, by omega⟩
  have PL := Lib.hid (fun w => wplus_w (R * (t - kx)) ky 0 ky w mf.1 hy0 (by omega) sm.1 sm.2)
  obtain ⟨d, ed⟩ : ∃ z, t - kx = z := ⟨_, rfl⟩
  have hw : IntKind.u64.wrap (t - kx) = d := by rw [IntKind.wrap_u64]; omega
  rw [ed] at M1 PL hV
  rw [hV] at PL
  obtain ⟨r, er⟩ : ∃ z, R * d = z := ⟨_, rfl⟩
  rw [er] at M1 PL
  obtain ⟨h1, e1⟩ : ∃ z, hiW r = z := ⟨_, rfl⟩
  obtain ⟨l1, e2⟩ : ∃ z, loW r = z := ⟨_, rfl⟩
  obtain ⟨h2, e3⟩ : ∃ z, hiW V = z := ⟨_, rfl⟩
  obtain ⟨l2, e4⟩ : ∃ z, loW V = z := ⟨_, rfl⟩
  rw [e1, e2] at M1
  rw [e1, e2, e3, e4] at PL
  rw [e3, e4]
  obtain ⟨ws, hws⟩ : ∃ y, (w.alloc (.cells #[.int .u64 kx, .int .u64 ky] 192)).alloc (.cells #[.int .u64 0, .int .u64 0] 137) = y := ⟨_, rfl⟩
  have hz1 : ws.heap.size = w.heap.size + 2 := by rw [← hws]; simp
  have hB1 : Below w.heap.size w ws := by rw [← hws]; go_grown
  have bA : Blk ws w.heap.size 192 #[.int .u64 kx, .int .u64 ky] := by rw [← hws]; exact (Blk.new w _ _).alloc _
  have bR : Blk ws (w.heap.size + 1) 137 #[.int .u64 0, .int .u64 0] := by rw [← hws]; exact Blk.new_at (by simp)
  have bQ : Blk ws q 123 #[.int .u64 F, .int .u64 L, .int .u64 R, .bool true, .int .i64 n, .int .u64 x, kv] := Blk.next h hB1
  have HE := Lib.hid hws
  have HB := Lib.hid hB1
  have HZ := Lib.hid hz1
  have KP : Hid (∀ w', Below (ws.heap.size) ws w' → (w'.cell? ⟨q, 2, none⟩ = some (.int .u64 R) ∧ w'.cell? ⟨w.heap.size, 0, none⟩ = some (.int .u64 kx) ∧ w'.cell? ⟨w.heap.size, 1, none⟩ = some (.int .u64 ky)) ∧ Below (ws.heap.size) ws w') := fun w' hb => ⟨⟨((Blk.next bQ hb).get 2 rfl), ((Blk.next bA hb).get 0 rfl), ((Blk.next bA hb).get 1 rfl)⟩, hb⟩
  have HBR := Lib.hid bR
  clear h my hx ht ht1 hy0 hy1 hV sm ed er e1 e2 e3 e4 bA bQ bR mf hws hB1 hz1
  go_enter Tryz.func143, Tryz.ntmps143
  go_wp2_with fail
  go_upto_region 1 with (fail)
  rw [HE.out]
  clear HE
  go_cut [7] (fun sv wc => ∃ q', sv = .pointer (some ⟨q', 0, none⟩) ∧ Blk wc q' 137 #[.int .u64 h2, .int .u64 l2] ∧ Blk wc (w.heap.size + 1) 137 #[.int .u64 0, .int .u64 0] ∧ Below ws.heap.size ws wc)
  case first =>
    refine wp_region_noPanic ?_
    refine wp_region_held_drew (S := fun w' => (w'.cell? ⟨q, 2, none⟩ = some (.int .u64 R) ∧ w'.cell? ⟨w.heap.size, 0, none⟩ = some (.int .u64 kx) ∧ w'.cell? ⟨w.heap.size, 1, none⟩ = some (.int .u64 ky)) ∧ Below (ws.heap.size) ws w') (by kernel_rfl) (KP.out _ (below_of_drew ((Below.refl ws.heap.size ws)))) (fun hH => ?_)
    have RSb0 : Blk (ws).drew (w.heap.size + 1) (137) #[.int .u64 0, .int .u64 0] := Blk.drew (HBR.out)
    have hbR := below_of_drew ((Below.refl ws.heap.size ws))
    first | (refine wpAnyH_take (i := 0) (v := undef) rfl ?_ ?_ ?_ (fun _ _ _ h => h) ?_ ?_ ?_; kernel_rfl; kernel_rfl; kernel_rfl; exact Or.inr ⟨by rfl, rfl⟩; exact hH) | (refine wpAnyH_take (i := 0) (v := ?_) rfl ?_ ?_ ?_ (fun _ _ _ h => h) ?_ ?_ ?_; rotate_left; kernel_rfl; kernel_rfl; kernel_rfl; (focus (refine Or.inl ⟨by rfl, ?_⟩; intro w' hSw; (try dsimp only at hSw); go_simp)); exact hH) | (refine wpAnyH_take (i := 0) (v := ?_) rfl ?_ ?_ ?_ (fun _ _ _ h => h) ?_ ?_ ?_; rotate_left; kernel_rfl; kernel_rfl; kernel_rfl; (focus (refine Or.inl ⟨by rfl, ?_⟩; intro w' hSw; (try dsimp only at hSw); go_simp; with_reducible rfl)); exact hH)
    try simp only [Act.put, List.getElem_toArray, List.getElem_cons_succ, List.getElem_cons_zero, List.setIfInBounds_toArray, List.set_cons_zero, List.set_cons_succ]
    first | (refine wpAnyH_take (i := 1) (v := undef) rfl ?_ ?_ ?_ (fun _ _ _ h => h) ?_ ?_ ?_; kernel_rfl; kernel_rfl; kernel_rfl; exact Or.inr ⟨by rfl, rfl⟩; exact hH) | (refine wpAnyH_take (i := 1) (v := ?_) rfl ?_ ?_ ?_ (fun _ _ _ h => h) ?_ ?_ ?_; rotate_left; kernel_rfl; kernel_rfl; kernel_rfl; (focus (refine Or.inl ⟨by rfl, ?_⟩; intro w' hSw; (try dsimp only at hSw); go_simp)); exact hH) | (refine wpAnyH_take (i := 1) (v := ?_) rfl ?_ ?_ ?_ (fun _ _ _ h => h) ?_ ?_ ?_; rotate_left; kernel_rfl; kernel_rfl; kernel_rfl; (focus (refine Or.inl ⟨by rfl, ?_⟩; intro w' hSw; (try dsimp only at hSw); go_simp; with_reducible rfl)); exact hH)
    try simp only [Act.put, List.getElem_toArray, List.getElem_cons_succ, List.getElem_cons_zero, List.setIfInBounds_toArray, List.set_cons_zero, List.set_cons_succ]
    first | (refine wpAnyH_take (i := 2) (v := undef) rfl ?_ ?_ ?_ (fun _ _ _ h => h) ?_ ?_ ?_; kernel_rfl; kernel_rfl; kernel_rfl; exact Or.inr ⟨by rfl, rfl⟩; exact hH) | (refine wpAnyH_take (i := 2) (v := ?_) rfl ?_ ?_ ?_ (fun _ _ _ h => h) ?_ ?_ ?_; rotate_left; kernel_rfl; kernel_rfl; kernel_rfl; (focus (refine Or.inl ⟨by rfl, ?_⟩; intro w' hSw; (try dsimp only at hSw); go_simp)); exact hH) | (refine wpAnyH_take (i := 2) (v := ?_) rfl ?_ ?_ ?_ (fun _ _ _ h => h) ?_ ?_ ?_; rotate_left; kernel_rfl; kernel_rfl; kernel_rfl; (focus (refine Or.inl ⟨by rfl, ?_⟩; intro w' hSw; (try dsimp only at hSw); go_simp; with_reducible rfl)); exact hH)
    try simp only [Act.put, List.getElem_toArray, List.getElem_cons_succ, List.getElem_cons_zero, List.setIfInBounds_toArray, List.set_cons_zero, List.set_cons_succ]
    first | (refine wpAnyH_take (i := 3) (v := undef) rfl ?_ ?_ ?_ (fun _ _ _ h => h) ?_ ?_ ?_; kernel_rfl; kernel_rfl; kernel_rfl; exact Or.inr ⟨by rfl, rfl⟩; exact hH) | (refine wpAnyH_take (i := 3) (v := ?_) rfl ?_ ?_ ?_ (fun _ _ _ h => h) ?_ ?_ ?_; rotate_left; kernel_rfl; kernel_rfl; kernel_rfl; (focus (refine Or.inl ⟨by rfl, ?_⟩; intro w' hSw; (try dsimp only at hSw); go_simp)); exact hH) | (refine wpAnyH_take (i := 3) (v := ?_) rfl ?_ ?_ ?_ (fun _ _ _ h => h) ?_ ?_ ?_; rotate_left; kernel_rfl; kernel_rfl; kernel_rfl; (focus (refine Or.inl ⟨by rfl, ?_⟩; intro w' hSw; (try dsimp only at hSw); go_simp; with_reducible rfl)); exact hH)
    try simp only [Act.put, List.getElem_toArray, List.getElem_cons_succ, List.getElem_cons_zero, List.setIfInBounds_toArray, List.set_cons_zero, List.set_cons_succ]
    first | (refine wpAnyH_take (i := 4) (v := undef) rfl ?_ ?_ ?_ (fun _ _ _ h => h) ?_ ?_ ?_; kernel_rfl; kernel_rfl; kernel_rfl; exact Or.inr ⟨by rfl, rfl⟩; exact hH) | (refine wpAnyH_take (i := 4) (v := ?_) rfl ?_ ?_ ?_ (fun _ _ _ h => h) ?_ ?_ ?_; rotate_left; kernel_rfl; kernel_rfl; kernel_rfl; (focus (refine Or.inl ⟨by rfl, ?_⟩; intro w' hSw; (try dsimp only at hSw); go_simp)); exact hH) | (refine wpAnyH_take (i := 4) (v := ?_) rfl ?_ ?_ ?_ (fun _ _ _ h => h) ?_ ?_ ?_; rotate_left; kernel_rfl; kernel_rfl; kernel_rfl; (focus (refine Or.inl ⟨by rfl, ?_⟩; intro w' hSw; (try dsimp only at hSw); go_simp; with_reducible rfl)); exact hH)
    try simp only [Act.put, List.getElem_toArray, List.getElem_cons_succ, List.getElem_cons_zero, List.setIfInBounds_toArray, List.set_cons_zero, List.set_cons_succ]
    first | (refine wpAnyH_take (i := 5) (v := undef) rfl ?_ ?_ ?_ (fun _ _ _ h => h) ?_ ?_ ?_; kernel_rfl; kernel_rfl; kernel_rfl; exact Or.inr ⟨by rfl, rfl⟩; exact hH) | (refine wpAnyH_take (i := 5) (v := ?_) rfl ?_ ?_ ?_ (fun _ _ _ h => h) ?_ ?_ ?_; rotate_left; kernel_rfl; kernel_rfl; kernel_rfl; (focus (refine Or.inl ⟨by rfl, ?_⟩; intro w' hSw; (try dsimp only at hSw); go_simp)); exact hH) | (refine wpAnyH_take (i := 5) (v := ?_) rfl ?_ ?_ ?_ (fun _ _ _ h => h) ?_ ?_ ?_; rotate_left; kernel_rfl; kernel_rfl; kernel_rfl; (focus (refine Or.inl ⟨by rfl, ?_⟩; intro w' hSw; (try dsimp only at hSw); go_simp; with_reducible rfl)); exact hH)
    try simp only [Act.put, List.getElem_toArray, List.getElem_cons_succ, List.getElem_cons_zero, List.setIfInBounds_toArray, List.set_cons_zero, List.set_cons_succ]
    first | (refine wpAnyH_take (i := 6) (v := undef) rfl ?_ ?_ ?_ (fun _ _ _ h => h) ?_ ?_ ?_; kernel_rfl; kernel_rfl; kernel_rfl; exact Or.inr ⟨by rfl, rfl⟩; exact hH) | (refine wpAnyH_take (i := 6) (v := ?_) rfl ?_ ?_ ?_ (fun _ _ _ h => h) ?_ ?_ ?_; rotate_left; kernel_rfl; kernel_rfl; kernel_rfl; (focus (refine Or.inl ⟨by rfl, ?_⟩; intro w' hSw; (try dsimp only at hSw); go_simp)); exact hH) | (refine wpAnyH_take (i := 6) (v := ?_) rfl ?_ ?_ ?_ (fun _ _ _ h => h) ?_ ?_ ?_; rotate_left; kernel_rfl; kernel_rfl; kernel_rfl; (focus (refine Or.inl ⟨by rfl, ?_⟩; intro w' hSw; (try dsimp only at hSw); go_simp; with_reducible rfl)); exact hH)
    try simp only [Act.put, List.getElem_toArray, List.getElem_cons_succ, List.getElem_cons_zero, List.setIfInBounds_toArray, List.set_cons_zero, List.set_cons_succ]
    first | (refine wpAnyH_take (i := 7) (v := undef) rfl ?_ ?_ ?_ (fun _ _ _ h => h) ?_ ?_ ?_; kernel_rfl; kernel_rfl; kernel_rfl; exact Or.inr ⟨by rfl, rfl⟩; exact hH) | (refine wpAnyH_take (i := 7) (v := ?_) rfl ?_ ?_ ?_ (fun _ _ _ h => h) ?_ ?_ ?_; rotate_left; kernel_rfl; kernel_rfl; kernel_rfl; (focus (refine Or.inl ⟨by rfl, ?_⟩; intro w' hSw; (try dsimp only at hSw); go_simp)); exact hH) | (refine wpAnyH_take (i := 7) (v := ?_) rfl ?_ ?_ ?_ (fun _ _ _ h => h) ?_ ?_ ?_; rotate_left; kernel_rfl; kernel_rfl; kernel_rfl; (focus (refine Or.inl ⟨by rfl, ?_⟩; intro w' hSw; (try dsimp only at hSw); go_simp; with_reducible rfl)); exact hH)
    try simp only [Act.put, List.getElem_toArray, List.getElem_cons_succ, List.getElem_cons_zero, List.setIfInBounds_toArray, List.set_cons_zero, List.set_cons_succ]
    first | (refine wpAnyH_take (i := 8) (v := undef) rfl ?_ ?_ ?_ (fun _ _ _ h => h) ?_ ?_ ?_; kernel_rfl; kernel_rfl; kernel_rfl; exact Or.inr ⟨by rfl, rfl⟩; exact hH) | (refine wpAnyH_take (i := 8) (v := ?_) rfl ?_ ?_ ?_ (fun _ _ _ h => h) ?_ ?_ ?_; rotate_left; kernel_rfl; kernel_rfl; kernel_rfl; (focus (refine Or.inl ⟨by rfl, ?_⟩; intro w' hSw; (try dsimp only at hSw); go_simp)); exact hH) | (refine wpAnyH_take (i := 8) (v := ?_) rfl ?_ ?_ ?_ (fun _ _ _ h => h) ?_ ?_ ?_; rotate_left; kernel_rfl; kernel_rfl; kernel_rfl; (focus (refine Or.inl ⟨by rfl, ?_⟩; intro w' hSw; (try dsimp only at hSw); go_simp; with_reducible rfl)); exact hH)
    try simp only [Act.put, List.getElem_toArray, List.getElem_cons_succ, List.getElem_cons_zero, List.setIfInBounds_toArray, List.set_cons_zero, List.set_cons_succ]
    first | (refine wpAnyH_take (i := 10) (v := undef) rfl ?_ ?_ ?_ (fun _ _ _ h => h) ?_ ?_ ?_; kernel_rfl; kernel_rfl; kernel_rfl; exact Or.inr ⟨by rfl, rfl⟩; exact hH) | (refine wpAnyH_take (i := 10) (v := ?_) rfl ?_ ?_ ?_ (fun _ _ _ h => h) ?_ ?_ ?_; rotate_left; kernel_rfl; kernel_rfl; kernel_rfl; (focus (refine Or.inl ⟨by rfl, ?_⟩; intro w' hSw; (try dsimp only at hSw); go_simp)); exact hH) | (refine wpAnyH_take (i := 10) (v := ?_) rfl ?_ ?_ ?_ (fun _ _ _ h => h) ?_ ?_ ?_; rotate_left; kernel_rfl; kernel_rfl; kernel_rfl; (focus (refine Or.inl ⟨by rfl, ?_⟩; intro w' hSw; (try dsimp only at hSw); go_simp; with_reducible rfl)); exact hH)
    try simp only [Act.put, List.getElem_toArray, List.getElem_cons_succ, List.getElem_cons_zero, List.setIfInBounds_toArray, List.set_cons_zero, List.set_cons_succ]
    first | (refine wpAnyH_take (i := 11) (v := undef) rfl ?_ ?_ ?_ (fun _ _ _ h => h) ?_ ?_ ?_; kernel_rfl; kernel_rfl; kernel_rfl; exact Or.inr ⟨by rfl, rfl⟩; exact hH) | (refine wpAnyH_take (i := 11) (v := ?_) rfl ?_ ?_ ?_ (fun _ _ _ h => h) ?_ ?_ ?_; rotate_left; kernel_rfl; kernel_rfl; kernel_rfl; (focus (refine Or.inl ⟨by rfl, ?_⟩; intro w' hSw; (try dsimp only at hSw); go_simp)); exact hH) | (refine wpAnyH_take (i := 11) (v := ?_) rfl ?_ ?_ ?_ (fun _ _ _ h => h) ?_ ?_ ?_; rotate_left; kernel_rfl; kernel_rfl; kernel_rfl; (focus (refine Or.inl ⟨by rfl, ?_⟩; intro w' hSw; (try dsimp only at hSw); go_simp; with_reducible rfl)); exact hH)
    try simp only [Act.put, List.getElem_toArray, List.getElem_cons_succ, List.getElem_cons_zero, List.setIfInBounds_toArray, List.set_cons_zero, List.set_cons_succ]
    first | (refine wpAnyH_take (i := 12) (v := undef) rfl ?_ ?_ ?_ (fun _ _ _ h => h) ?_ ?_ ?_; kernel_rfl; kernel_rfl; kernel_rfl; exact Or.inr ⟨by rfl, rfl⟩; exact hH) | (refine wpAnyH_take (i := 12) (v := ?_) rfl ?_ ?_ ?_ (fun _ _ _ h => h) ?_ ?_ ?_; rotate_left; kernel_rfl; kernel_rfl; kernel_rfl; (focus (refine Or.inl ⟨by rfl, ?_⟩; intro w' hSw; (try dsimp only at hSw); go_simp)); exact hH) | (refine wpAnyH_take (i := 12) (v := ?_) rfl ?_ ?_ ?_ (fun _ _ _ h => h) ?_ ?_ ?_; rotate_left; kernel_rfl; kernel_rfl; kernel_rfl; (focus (refine Or.inl ⟨by rfl, ?_⟩; intro w' hSw; (try dsimp only at hSw); go_simp; with_reducible rfl)); exact hH)
    try simp only [Act.put, List.getElem_toArray, List.getElem_cons_succ, List.getElem_cons_zero, List.setIfInBounds_toArray, List.set_cons_zero, List.set_cons_succ]
    refine wpAnyH_ready (rs := [9, 17]) (by kernel_rfl) (by simp) ?_
    refine (AllReadyH.cons rfl (fun K hK => ?_) (AllReadyH.cons rfl (fun K hK => ?_) AllReadyH.nil))
    · skip
      go_simp
      with_reducible refine (M1.out _).mono ?_
      rintro e w1 ⟨rfl, hb1'⟩
      have hb1 : Below (ws.heap.size) ws w1 := below_next hH.2 hb1'
      try go_wp2_with fail
      have RSb1 := Blk.next RSb0 hb1'
      have RSc10 : World.cell? w1 ⟨w.heap.size + 1, 0, none⟩ = some (.int .u64 0) := Blk.get RSb1 0 rfl
      have RSf10 : World.frozen? w1 ⟨w.heap.size + 1, 0, none⟩ = false := Blk.frozen RSb1 0
      have RSc11 : World.cell? w1 ⟨w.heap.size + 1, 1, none⟩ = some (.int .u64 0) := Blk.get RSb1 1 rfl
      have RSf11 : World.frozen? w1 ⟨w.heap.size + 1, 1, none⟩ = false := Blk.frozen RSb1 1
      have RSn1 := Blk.lt RSb1
      refine hK.out _ _ (KP.out _ hb1) (fun hH1 => ?_)
      clear hK K hH
      have hH := hH1
      clear hH1
      try simp only [Act.put, List.getElem_toArray, List.getElem_cons_succ, List.getElem_cons_zero, List.setIfInBounds_toArray, List.set_cons_zero, List.set_cons_succ]
      refine wpAnyH_ready (rs := [13, 17]) (by kernel_rfl) (by simp) ?_
      refine (AllReadyH.cons rfl (fun K hK => ?_) (AllReadyH.cons rfl (fun K hK => ?_) AllReadyH.nil))
      · skip
        go_simp
        with_reducible refine (PL.out _).mono ?_
        rintro e w2 ⟨rfl, hb2'⟩
        have hb2 : Below (ws.heap.size) ws w2 := below_next hH.2 hb2'
        try go_wp2_with fail
        have RSb2 := Blk.next RSb1 hb2'
        have RSc20 : World.cell? w2 ⟨w.heap.size + 1, 0, none⟩ = some (.int .u64 0) := Blk.get RSb2 0 rfl
        have RSf20 : World.frozen? w2 ⟨w.heap.size + 1, 0, none⟩ = false := Blk.frozen RSb2 0
        have RSc21 : World.cell? w2 ⟨w.heap.size + 1, 1, none⟩ = some (.int .u64 0) := Blk.get RSb2 1 rfl
        have RSf21 : World.frozen? w2 ⟨w.heap.size + 1, 1, none⟩ = false := Blk.frozen RSb2 1
        have RSn2 := Blk.lt RSb2
        refine hK.out _ _ (KP.out _ hb2) (fun hH2 => ?_)
        clear hK K hH
        have hH := hH2
        clear hH2
        try simp only [Act.put, List.getElem_toArray, List.getElem_cons_succ, List.getElem_cons_zero, List.setIfInBounds_toArray, List.set_cons_zero, List.set_cons_succ]
        first | (refine wpAnyH_take (i := 14) (v := undef) rfl ?_ ?_ ?_ (fun _ _ _ h => h) ?_ ?_ ?_; kernel_rfl; kernel_rfl; kernel_rfl; exact Or.inr ⟨by rfl, rfl⟩; exact hH) | (refine wpAnyH_take (i := 14) (v := ?_) rfl ?_ ?_ ?_ (fun _ _ _ h => h) ?_ ?_ ?_; rotate_left; kernel_rfl; kernel_rfl; kernel_rfl; (focus (refine Or.inl ⟨by rfl, ?_⟩; intro w' hSw; (try dsimp only at hSw); go_simp)); exact hH) | (refine wpAnyH_take (i := 14) (v := ?_) rfl ?_ ?_ ?_ (fun _ _ _ h => h) ?_ ?_ ?_; rotate_left; kernel_rfl; kernel_rfl; kernel_rfl; (focus (refine Or.inl ⟨by rfl, ?_⟩; intro w' hSw; (try dsimp only at hSw); go_simp; with_reducible rfl)); exact hH)
        try simp only [Act.put, List.getElem_toArray, List.getElem_cons_succ, List.getElem_cons_zero, List.setIfInBounds_toArray, List.set_cons_zero, List.set_cons_succ]
        first | (refine wpAnyH_take (i := 15) (v := undef) rfl ?_ ?_ ?_ (fun _ _ _ h => h) ?_ ?_ ?_; kernel_rfl; kernel_rfl; kernel_rfl; exact Or.inr ⟨by rfl, rfl⟩; exact hH) | (refine wpAnyH_take (i := 15) (v := ?_) rfl ?_ ?_ ?_ (fun _ _ _ h => h) ?_ ?_ ?_; rotate_left; kernel_rfl; kernel_rfl; kernel_rfl; (focus (refine Or.inl ⟨by rfl, ?_⟩; intro w' hSw; (try dsimp only at hSw); go_simp)); exact hH) | (refine wpAnyH_take (i := 15) (v := ?_) rfl ?_ ?_ ?_ (fun _ _ _ h => h) ?_ ?_ ?_; rotate_left; kernel_rfl; kernel_rfl; kernel_rfl; (focus (refine Or.inl ⟨by rfl, ?_⟩; intro w' hSw; (try dsimp only at hSw); go_simp; with_reducible rfl)); exact hH)
        try simp only [Act.put, List.getElem_toArray, List.getElem_cons_succ, List.getElem_cons_zero, List.setIfInBounds_toArray, List.set_cons_zero, List.set_cons_succ]
        first | (refine wpAnyH_take (i := 16) (v := undef) rfl ?_ ?_ ?_ (fun _ _ _ h => h) ?_ ?_ ?_; kernel_rfl; kernel_rfl; kernel_rfl; exact Or.inr ⟨by rfl, rfl⟩; exact hH) | (refine wpAnyH_take (i := 16) (v := ?_) rfl ?_ ?_ ?_ (fun _ _ _ h => h) ?_ ?_ ?_; rotate_left; kernel_rfl; kernel_rfl; kernel_rfl; (focus (refine Or.inl ⟨by rfl, ?_⟩; intro w' hSw; (try dsimp only at hSw); go_simp)); exact hH) | (refine wpAnyH_take (i := 16) (v := ?_) rfl ?_ ?_ ?_ (fun _ _ _ h => h) ?_ ?_ ?_; rotate_left; kernel_rfl; kernel_rfl; kernel_rfl; (focus (refine Or.inl ⟨by rfl, ?_⟩; intro w' hSw; (try dsimp only at hSw); go_simp; with_reducible rfl)); exact hH)
        try simp only [Act.put, List.getElem_toArray, List.getElem_cons_succ, List.getElem_cons_zero, List.setIfInBounds_toArray, List.set_cons_zero, List.set_cons_succ]
        refine wpAnyH_ready (rs := [17]) (by kernel_rfl) (by simp) ?_
        refine (AllReadyH.cons rfl (fun K hK => ?_) AllReadyH.nil)
        go_simp
        have NERSS3 : w.heap.size + 1 ≠ w2.heap.size := Nat.ne_of_lt (Nat.lt_of_lt_of_eq (Blk.lt RSb2) (by simp))
        have RSb3 := Blk.alloc RSb2 (.cells #[.int .u64 0, .int .u64 0] 137)
        have Sb3 : Blk (w2.alloc (.cells #[.int .u64 0, .int .u64 0] 137)) (w2.heap.size) 137 #[.int .u64 0, .int .u64 0] := Blk.new_at (by simp)
        have QGS : ws.heap.size ≤ w2.heap.size := Nat.le_trans (Below.size (hb2)) (Nat.le_of_eq (by simp))
        have hb3 := Below.alloc (hb2) (Below.size (hb2)) (.cells #[.int .u64 0, .int .u64 0] 137)
        refine hK.out _ _ (KP.out _ hb3) (fun hH3 => ?_)
        clear hK K hH
        have hH := hH3
        clear hH3
        try simp only [Act.put, List.getElem_toArray, List.getElem_cons_succ, List.getElem_cons_zero, List.setIfInBounds_toArray, List.set_cons_zero, List.set_cons_succ]
        refine wpAnyH_ready (rs := [18]) (by kernel_rfl) (by simp) ?_
        refine (AllReadyH.cons rfl (fun K hK => ?_) AllReadyH.nil)
        go_simp
        have RSb4 := Blk.alloc RSb2 (.cells #[.int .u64 h2, .int .u64 l2] 137)
        have Sb4 : Blk (w2.alloc (.cells #[.int .u64 h2, .int .u64 l2] 137)) (w2.heap.size) 137 #[.int .u64 h2, .int .u64 l2] := Blk.new_at (by simp)
        have hb4 := Below.alloc (hb2) (Below.size (hb2)) (.cells #[.int .u64 h2, .int .u64 l2] 137)
        refine hK.out _ _ (KP.out _ hb4) (fun hH4 => ?_)
        clear hK K hH
        have hH := hH4
        clear hH4
        try simp only [Act.put, List.getElem_toArray, List.getElem_cons_succ, List.getElem_cons_zero, List.setIfInBounds_toArray, List.set_cons_zero, List.set_cons_succ]
        first | (refine wpAnyH_take (i := 19) (v := undef) rfl ?_ ?_ ?_ (fun _ _ _ h => h) ?_ ?_ ?_; kernel_rfl; kernel_rfl; kernel_rfl; exact Or.inr ⟨by rfl, rfl⟩; exact hH) | (refine wpAnyH_take (i := 19) (v := ?_) rfl ?_ ?_ ?_ (fun _ _ _ h => h) ?_ ?_ ?_; rotate_left; kernel_rfl; kernel_rfl; kernel_rfl; (focus (refine Or.inl ⟨by rfl, ?_⟩; intro w' hSw; (try dsimp only at hSw); go_simp)); exact hH) | (refine wpAnyH_take (i := 19) (v := ?_) rfl ?_ ?_ ?_ (fun _ _ _ h => h) ?_ ?_ ?_; rotate_left; kernel_rfl; kernel_rfl; kernel_rfl; (focus (refine Or.inl ⟨by rfl, ?_⟩; intro w' hSw; (try dsimp only at hSw); go_simp; with_reducible rfl)); exact hH)
        try simp only [Act.put, List.getElem_toArray, List.getElem_cons_succ, List.getElem_cons_zero, List.setIfInBounds_toArray, List.set_cons_zero, List.set_cons_succ]
        refine wpAnyH_done (by kernel_rfl) ?_ _
        refine NoPanic.normal ?_
        go_wp2_with fail
        go_meet
        exact ⟨_, rfl, Sb4, RSb4, hb4⟩
      · skip
        go_simp
        have NERSS5 : w.heap.size + 1 ≠ w1.heap.size := Nat.ne_of_lt (Nat.lt_of_lt_of_eq (Blk.lt RSb1) (by simp))
        have RSb5 := Blk.alloc RSb1 (.cells #[.int .u64 0, .int .u64 0] 137)
        have Sb5 : Blk (w1.alloc (.cells #[.int .u64 0, .int .u64 0] 137)) (w1.heap.size) 137 #[.int .u64 0, .int .u64 0] := Blk.new_at (by simp)
        have QGS : ws.heap.size ≤ w1.heap.size := Nat.le_trans (Below.size (hb1)) (Nat.le_of_eq (by simp))
        have hb5 := Below.alloc (hb1) (Below.size (hb1)) (.cells #[.int .u64 0, .int .u64 0] 137)
        refine hK.out _ _ (KP.out _ hb5) (fun hH5 => ?_)
        clear hK K hH
        have hH := hH5
        clear hH5
        try simp only [Act.put, List.getElem_toArray, List.getElem_cons_succ, List.getElem_cons_zero, List.setIfInBounds_toArray, List.set_cons_zero, List.set_cons_succ]
        refine wpAnyH_ready (rs := [13]) (by kernel_rfl) (by simp) ?_
        refine (AllReadyH.cons rfl (fun K hK => ?_) AllReadyH.nil)
        go_simp
        with_reducible refine (PL.out _).mono ?_
        rintro e w6 ⟨rfl, hb6'⟩
        have hb6 : Below (ws.heap.size) ws w6 := below_next hH.2 hb6'
        try go_wp2_with fail
        have RSb6 := Blk.next RSb5 hb6'
        have RSc60 : World.cell? w6 ⟨w.heap.size + 1, 0, none⟩ = some (.int .u64 0) := Blk.get RSb6 0 rfl
        have RSf60 : World.frozen? w6 ⟨w.heap.size + 1, 0, none⟩ = false := Blk.frozen RSb6 0
        have RSc61 : World.cell? w6 ⟨w.heap.size + 1, 1, none⟩ = some (.int .u64 0) := Blk.get RSb6 1 rfl
        have RSf61 : World.frozen? w6 ⟨w.heap.size + 1, 1, none⟩ = false := Blk.frozen RSb6 1
        have RSn6 := Blk.lt RSb6
        have Sb6 := Blk.next Sb5 hb6'
        have Sc60 : World.cell? w6 ⟨w1.heap.size, 0, none⟩ = some (.int .u64 0) := Blk.get Sb6 0 rfl
        have Sf60 : World.frozen? w6 ⟨w1.heap.size, 0, none⟩ = false := Blk.frozen Sb6 0
        have Sc61 : World.cell? w6 ⟨w1.heap.size, 1, none⟩ = some (.int .u64 0) := Blk.get Sb6 1 rfl
        have Sf61 : World.frozen? w6 ⟨w1.heap.size, 1, none⟩ = false := Blk.frozen Sb6 1
        have Sn6 := Blk.lt Sb6
        refine hK.out _ _ (KP.out _ hb6) (fun hH6 => ?_)
        clear hK K hH
        have hH := hH6
        clear hH6
        try simp only [Act.put, List.getElem_toArray, List.getElem_cons_succ, List.getElem_cons_zero, List.setIfInBounds_toArray, List.set_cons_zero, List.set_cons_succ]
        first | (refine wpAnyH_take (i := 14) (v := undef) rfl ?_ ?_ ?_ (fun _ _ _ h => h) ?_ ?_ ?_; kernel_rfl; kernel_rfl; kernel_rfl; exact Or.inr ⟨by rfl, rfl⟩; exact hH) | (refine wpAnyH_take (i := 14) (v := ?_) rfl ?_ ?_ ?_ (fun _ _ _ h => h) ?_ ?_ ?_; rotate_left; kernel_rfl; kernel_rfl; kernel_rfl; (focus (refine Or.inl ⟨by rfl, ?_⟩; intro w' hSw; (try dsimp only at hSw); go_simp)); exact hH) | (refine wpAnyH_take (i := 14) (v := ?_) rfl ?_ ?_ ?_ (fun _ _ _ h => h) ?_ ?_ ?_; rotate_left; kernel_rfl; kernel_rfl; kernel_rfl; (focus (refine Or.inl ⟨by rfl, ?_⟩; intro w' hSw; (try dsimp only at hSw); go_simp; with_reducible rfl)); exact hH)
        try simp only [Act.put, List.getElem_toArray, List.getElem_cons_succ, List.getElem_cons_zero, List.setIfInBounds_toArray, List.set_cons_zero, List.set_cons_succ]
        first | (refine wpAnyH_take (i := 15) (v := undef) rfl ?_ ?_ ?_ (fun _ _ _ h => h) ?_ ?_ ?_; kernel_rfl; kernel_rfl; kernel_rfl; exact Or.inr ⟨by rfl, rfl⟩; exact hH) | (refine wpAnyH_take (i := 15) (v := ?_) rfl ?_ ?_ ?_ (fun _ _ _ h => h) ?_ ?_ ?_; rotate_left; kernel_rfl; kernel_rfl; kernel_rfl; (focus (refine Or.inl ⟨by rfl, ?_⟩; intro w' hSw; (try dsimp only at hSw); go_simp)); exact hH) | (refine wpAnyH_take (i := 15) (v := ?_) rfl ?_ ?_ ?_ (fun _ _ _ h => h) ?_ ?_ ?_; rotate_left; kernel_rfl; kernel_rfl; kernel_rfl; (focus (refine Or.inl ⟨by rfl, ?_⟩; intro w' hSw; (try dsimp only at hSw); go_simp; with_reducible rfl)); exact hH)
        try simp only [Act.put, List.getElem_toArray, List.getElem_cons_succ, List.getElem_cons_zero, List.setIfInBounds_toArray, List.set_cons_zero, List.set_cons_succ]
        first | (refine wpAnyH_take (i := 16) (v := undef) rfl ?_ ?_ ?_ (fun _ _ _ h => h) ?_ ?_ ?_; kernel_rfl; kernel_rfl; kernel_rfl; exact Or.inr ⟨by rfl, rfl⟩; exact hH) | (refine wpAnyH_take (i := 16) (v := ?_) rfl ?_ ?_ ?_ (fun _ _ _ h => h) ?_ ?_ ?_; rotate_left; kernel_rfl; kernel_rfl; kernel_rfl; (focus (refine Or.inl ⟨by rfl, ?_⟩; intro w' hSw; (try dsimp only at hSw); go_simp)); exact hH) | (refine wpAnyH_take (i := 16) (v := ?_) rfl ?_ ?_ ?_ (fun _ _ _ h => h) ?_ ?_ ?_; rotate_left; kernel_rfl; kernel_rfl; kernel_rfl; (focus (refine Or.inl ⟨by rfl, ?_⟩; intro w' hSw; (try dsimp only at hSw); go_simp; with_reducible rfl)); exact hH)
        try simp only [Act.put, List.getElem_toArray, List.getElem_cons_succ, List.getElem_cons_zero, List.setIfInBounds_toArray, List.set_cons_zero, List.set_cons_succ]
        refine wpAnyH_ready (rs := [18]) (by kernel_rfl) (by simp) ?_
        refine (AllReadyH.cons rfl (fun K hK => ?_) AllReadyH.nil)
        go_simp
        have Sb7 := (Blk.put (Blk.put Sb6 0 (.int .u64 h2)) 1 (.int .u64 l2))
        have hb7 : Below (ws.heap.size) ws _ := (Below.setCell (p := ⟨w1.heap.size, 1, none⟩) (Below.setCell (p := ⟨w1.heap.size, 0, none⟩) hb6 (by show _ ≤ w1.heap.size; first | exact Nat.le_refl _ | exact hH.2.size | (simp only [World.size_alloc, World.size_drew] at *; omega)) (.int .u64 h2)) (by show _ ≤ w1.heap.size; first | exact Nat.le_refl _ | exact hH.2.size | (simp only [World.size_alloc, World.size_drew] at *; omega)) (.int .u64 l2))
        have RSb7 := (Blk.far (Blk.far RSb6 (p := ⟨w1.heap.size, 0, none⟩) (show w.heap.size + 1 ≠ w1.heap.size by first | assumption | exact Ne.symm (by assumption) | omega) (.int .u64 h2)) (p := ⟨w1.heap.size, 1, none⟩) (show w.heap.size + 1 ≠ w1.heap.size by first | assumption | exact Ne.symm (by assumption) | omega) (.int .u64 l2))
        refine hK.out _ _ (KP.out _ hb7) (fun hH7 => ?_)
        clear hK K hH
        have hH := hH7
        clear hH7
        try simp only [Act.put, List.getElem_toArray, List.getElem_cons_succ, List.getElem_cons_zero, List.setIfInBounds_toArray, List.set_cons_zero, List.set_cons_succ]
        first | (refine wpAnyH_take (i := 19) (v := undef) rfl ?_ ?_ ?_ (fun _ _ _ h => h) ?_ ?_ ?_; kernel_rfl; kernel_rfl; kernel_rfl; exact Or.inr ⟨by rfl, rfl⟩; exact hH) | (refine wpAnyH_take (i := 19) (v := ?_) rfl ?_ ?_ ?_ (fun _ _ _ h => h) ?_ ?_ ?_; rotate_left; kernel_rfl; kernel_rfl; kernel_rfl; (focus (refine Or.inl ⟨by rfl, ?_⟩; intro w' hSw; (try dsimp only at hSw); go_simp)); exact hH) | (refine wpAnyH_take (i := 19) (v := ?_) rfl ?_ ?_ ?_ (fun _ _ _ h => h) ?_ ?_ ?_; rotate_left; kernel_rfl; kernel_rfl; kernel_rfl; (focus (refine Or.inl ⟨by rfl, ?_⟩; intro w' hSw; (try dsimp only at hSw); go_simp; with_reducible rfl)); exact hH)
        try simp only [Act.put, List.getElem_toArray, List.getElem_cons_succ, List.getElem_cons_zero, List.setIfInBounds_toArray, List.set_cons_zero, List.set_cons_succ]
        refine wpAnyH_done (by kernel_rfl) ?_ _
        refine NoPanic.normal ?_
        go_wp2_with fail
        go_meet
        exact ⟨_, rfl, Sb7, RSb7, hb7⟩
    · skip
      go_simp
      have NERSS8 : w.heap.size + 1 ≠ ws.heap.size := Nat.ne_of_lt (Nat.lt_of_lt_of_eq (Blk.lt RSb0) (by simp))
      have RSb8 := Blk.alloc RSb0 (.cells #[.int .u64 0, .int .u64 0] 137)
      have Sb8 : Blk (ws.drew.alloc (.cells #[.int .u64 0, .int .u64 0] 137)) (ws.heap.size) 137 #[.int .u64 0, .int .u64 0] := Blk.new_at (by simp)
      have QGS : ws.heap.size ≤ ws.heap.size := Nat.le_trans (Below.size (hbR)) (Nat.le_of_eq (by simp))
      have hb8 := Below.alloc (hbR) (Below.size (hbR)) (.cells #[.int .u64 0, .int .u64 0] 137)
      refine hK.out _ _ (KP.out _ hb8) (fun hH8 => ?_)
      clear hK K hH
      have hH := hH8
      clear hH8
      try simp only [Act.put, List.getElem_toArray, List.getElem_cons_succ, List.getElem_cons_zero, List.setIfInBounds_toArray, List.set_cons_zero, List.set_cons_succ]
      refine wpAnyH_ready (rs := [9]) (by kernel_rfl) (by simp) ?_
      refine (AllReadyH.cons rfl (fun K hK => ?_) AllReadyH.nil)
      go_simp
      with_reducible refine (M1.out _).mono ?_
      rintro e w9 ⟨rfl, hb9'⟩
      have hb9 : Below (ws.heap.size) ws w9 := below_next hH.2 hb9'
      try go_wp2_with fail
      have RSb9 := Blk.next RSb8 hb9'
      have RSc90 : World.cell? w9 ⟨w.heap.size + 1, 0, none⟩ = some (.int .u64 0) := Blk.get RSb9 0 rfl
      have RSf90 : World.frozen? w9 ⟨w.heap.size + 1, 0, none⟩ = false := Blk.frozen RSb9 0
      have RSc91 : World.cell? w9 ⟨w.heap.size + 1, 1, none⟩ = some (.int .u64 0) := Blk.get RSb9 1 rfl
      have RSf91 : World.frozen? w9 ⟨w.heap.size + 1, 1, none⟩ = false := Blk.frozen RSb9 1
      have RSn9 := Blk.lt RSb9
      have Sb9 := Blk.next Sb8 hb9'
      have Sc90 : World.cell? w9 ⟨ws.heap.size, 0, none⟩ = some (.int .u64 0) := Blk.get Sb9 0 rfl
      have Sf90 : World.frozen? w9 ⟨ws.heap.size, 0, none⟩ = false := Blk.frozen Sb9 0
      have Sc91 : World.cell? w9 ⟨ws.heap.size, 1, none⟩ = some (.int .u64 0) := Blk.get Sb9 1 rfl
      have Sf91 : World.frozen? w9 ⟨ws.heap.size, 1, none⟩ = false := Blk.frozen Sb9 1
      have Sn9 := Blk.lt Sb9
      refine hK.out _ _ (KP.out _ hb9) (fun hH9 => ?_)
      clear hK K hH
      have hH := hH9
      clear hH9
      try simp only [Act.put, List.getElem_toArray, List.getElem_cons_succ, List.getElem_cons_zero, List.setIfInBounds_toArray, List.set_cons_zero, List.set_cons_succ]
      refine wpAnyH_ready (rs := [13]) (by kernel_rfl) (by simp) ?_
      refine (AllReadyH.cons rfl (fun K hK => ?_) AllReadyH.nil)
      go_simp
      with_reducible refine (PL.out _).mono ?_
      rintro e w10 ⟨rfl, hb10'⟩
      have hb10 : Below (ws.heap.size) ws w10 := below_next hH.2 hb10'
      try go_wp2_with fail
      have RSb10 := Blk.next RSb9 hb10'
      have RSc100 : World.cell? w10 ⟨w.heap.size + 1, 0, none⟩ = some (.int .u64 0) := Blk.get RSb10 0 rfl
      have RSf100 : World.frozen? w10 ⟨w.heap.size + 1, 0, none⟩ = false := Blk.frozen RSb10 0
      have RSc101 : World.cell? w10 ⟨w.heap.size + 1, 1, none⟩ = some (.int .u64 0) := Blk.get RSb10 1 rfl
      have RSf101 : World.frozen? w10 ⟨w.heap.size + 1, 1, none⟩ = false := Blk.frozen RSb10 1
      have RSn10 := Blk.lt RSb10
      have Sb10 := Blk.next Sb9 hb10'
      have Sc100 : World.cell? w10 ⟨ws.heap.size, 0, none⟩ = some (.int .u64 0) := Blk.get Sb10 0 rfl
      have Sf100 : World.frozen? w10 ⟨ws.heap.size, 0, none⟩ = false := Blk.frozen Sb10 0
      have Sc101 : World.cell? w10 ⟨ws.heap.size, 1, none⟩ = some (.int .u64 0) := Blk.get Sb10 1 rfl
      have Sf101 : World.frozen? w10 ⟨ws.heap.size, 1, none⟩ = false := Blk.frozen Sb10 1
      have Sn10 := Blk.lt Sb10
      refine hK.out _ _ (KP.out _ hb10) (fun hH10 => ?_)
      clear hK K hH
      have hH := hH10
      clear hH10
      try simp only [Act.put, List.getElem_toArray, List.getElem_cons_succ, List.getElem_cons_zero, List.setIfInBounds_toArray, List.set_cons_zero, List.set_cons_succ]
      first | (refine wpAnyH_take (i := 14) (v := undef) rfl ?_ ?_ ?_ (fun _ _ _ h => h) ?_ ?_ ?_; kernel_rfl; kernel_rfl; kernel_rfl; exact Or.inr ⟨by rfl, rfl⟩; exact hH) | (refine wpAnyH_take (i := 14) (v := ?_) rfl ?_ ?_ ?_ (fun _ _ _ h => h) ?_ ?_ ?_; rotate_left; kernel_rfl; kernel_rfl; kernel_rfl; (focus (refine Or.inl ⟨by rfl, ?_⟩; intro w' hSw; (try dsimp only at hSw); go_simp)); exact hH) | (refine wpAnyH_take (i := 14) (v := ?_) rfl ?_ ?_ ?_ (fun _ _ _ h => h) ?_ ?_ ?_; rotate_left; kernel_rfl; kernel_rfl; kernel_rfl; (focus (refine Or.inl ⟨by rfl, ?_⟩; intro w' hSw; (try dsimp only at hSw); go_simp; with_reducible rfl)); exact hH)
      try simp only [Act.put, List.getElem_toArray, List.getElem_cons_succ, List.getElem_cons_zero, List.setIfInBounds_toArray, List.set_cons_zero, List.set_cons_succ]
      first | (refine wpAnyH_take (i := 15) (v := undef) rfl ?_ ?_ ?_ (fun _ _ _ h => h) ?_ ?_ ?_; kernel_rfl; kernel_rfl; kernel_rfl; exact Or.inr ⟨by rfl, rfl⟩; exact hH) | (refine wpAnyH_take (i := 15) (v := ?_) rfl ?_ ?_ ?_ (fun _ _ _ h => h) ?_ ?_ ?_; rotate_left; kernel_rfl; kernel_rfl; kernel_rfl; (focus (refine Or.inl ⟨by rfl, ?_⟩; intro w' hSw; (try dsimp only at hSw); go_simp)); exact hH) | (refine wpAnyH_take (i := 15) (v := ?_) rfl ?_ ?_ ?_ (fun _ _ _ h => h) ?_ ?_ ?_; rotate_left; kernel_rfl; kernel_rfl; kernel_rfl; (focus (refine Or.inl ⟨by rfl, ?_⟩; intro w' hSw; (try dsimp only at hSw); go_simp; with_reducible rfl)); exact hH)
      try simp only [Act.put, List.getElem_toArray, List.getElem_cons_succ, List.getElem_cons_zero, List.setIfInBounds_toArray, List.set_cons_zero, List.set_cons_succ]
      first | (refine wpAnyH_take (i := 16) (v := undef) rfl ?_ ?_ ?_ (fun _ _ _ h => h) ?_ ?_ ?_; kernel_rfl; kernel_rfl; kernel_rfl; exact Or.inr ⟨by rfl, rfl⟩; exact hH) | (refine wpAnyH_take (i := 16) (v := ?_) rfl ?_ ?_ ?_ (fun _ _ _ h => h) ?_ ?_ ?_; rotate_left; kernel_rfl; kernel_rfl; kernel_rfl; (focus (refine Or.inl ⟨by rfl, ?_⟩; intro w' hSw; (try dsimp only at hSw); go_simp)); exact hH) | (refine wpAnyH_take (i := 16) (v := ?_) rfl ?_ ?_ ?_ (fun _ _ _ h => h) ?_ ?_ ?_; rotate_left; kernel_rfl; kernel_rfl; kernel_rfl; (focus (refine Or.inl ⟨by rfl, ?_⟩; intro w' hSw; (try dsimp only at hSw); go_simp; with_reducible rfl)); exact hH)
      try simp only [Act.put, List.getElem_toArray, List.getElem_cons_succ, List.getElem_cons_zero, List.setIfInBounds_toArray, List.set_cons_zero, List.set_cons_succ]
      refine wpAnyH_ready (rs := [18]) (by kernel_rfl) (by simp) ?_
      refine (AllReadyH.cons rfl (fun K hK => ?_) AllReadyH.nil)
      go_simp
      have Sb11 := (Blk.put (Blk.put Sb10 0 (.int .u64 h2)) 1 (.int .u64 l2))
      have hb11 : Below (ws.heap.size) ws _ := (Below.setCell (p := ⟨ws.heap.size, 1, none⟩) (Below.setCell (p := ⟨ws.heap.size, 0, none⟩) hb10 (by show _ ≤ ws.heap.size; first | exact Nat.le_refl _ | exact hH.2.size | (simp only [World.size_alloc, World.size_drew] at *; omega)) (.int .u64 h2)) (by show _ ≤ ws.heap.size; first | exact Nat.le_refl _ | exact hH.2.size | (simp only [World.size_alloc, World.size_drew] at *; omega)) (.int .u64 l2))
      have RSb11 := (Blk.far (Blk.far RSb10 (p := ⟨ws.heap.size, 0, none⟩) (show w.heap.size + 1 ≠ ws.heap.size by first | assumption | exact Ne.symm (by assumption) | omega) (.int .u64 h2)) (p := ⟨ws.heap.size, 1, none⟩) (show w.heap.size + 1 ≠ ws.heap.size by first | assumption | exact Ne.symm (by assumption) | omega) (.int .u64 l2))
      refine hK.out _ _ (KP.out _ hb11) (fun hH11 => ?_)
      clear hK K hH
      have hH := hH11
      clear hH11
      try simp only [Act.put, List.getElem_toArray, List.getElem_cons_succ, List.getElem_cons_zero, List.setIfInBounds_toArray, List.set_cons_zero, List.set_cons_succ]
      first | (refine wpAnyH_take (i := 19) (v := undef) rfl ?_ ?_ ?_ (fun _ _ _ h => h) ?_ ?_ ?_; kernel_rfl; kernel_rfl; kernel_rfl; exact Or.inr ⟨by rfl, rfl⟩; exact hH) | (refine wpAnyH_take (i := 19) (v := ?_) rfl ?_ ?_ ?_ (fun _ _ _ h => h) ?_ ?_ ?_; rotate_left; kernel_rfl; kernel_rfl; kernel_rfl; (focus (refine Or.inl ⟨by rfl, ?_⟩; intro w' hSw; (try dsimp only at hSw); go_simp)); exact hH) | (refine wpAnyH_take (i := 19) (v := ?_) rfl ?_ ?_ ?_ (fun _ _ _ h => h) ?_ ?_ ?_; rotate_left; kernel_rfl; kernel_rfl; kernel_rfl; (focus (refine Or.inl ⟨by rfl, ?_⟩; intro w' hSw; (try dsimp only at hSw); go_simp; with_reducible rfl)); exact hH)
      try simp only [Act.put, List.getElem_toArray, List.getElem_cons_succ, List.getElem_cons_zero, List.setIfInBounds_toArray, List.set_cons_zero, List.set_cons_succ]
      refine wpAnyH_done (by kernel_rfl) ?_ _
      refine NoPanic.normal ?_
      go_wp2_with fail
      go_meet
      exact ⟨_, rfl, Sb11, RSb11, hb11⟩
  case rest =>
    obtain ⟨q', rfl, Sb, Rb, B0⟩ := hcut
    have Sc0 : World.cell? wc ⟨q', 0, none⟩ = some (.int .u64 h2) := Sb.get 0 rfl
    have Sc1 : World.cell? wc ⟨q', 1, none⟩ = some (.int .u64 l2) := Sb.get 1 rfl
    have Rc0 : World.cell? wc ⟨w.heap.size + 1, 0, none⟩ = some (.int .u64 0) := Rb.get 0 rfl
    have Rc1 : World.cell? wc ⟨w.heap.size + 1, 1, none⟩ = some (.int .u64 0) := Rb.get 1 rfl
    have Rf0 := Rb.frozen 0
    have Rf1 := Rb.frozen 1
    obtain ⟨P0, P1, P2⟩ := Blk.puts Rb (.int .u64 h2) (.int .u64 l2)
    have HB2 := Lib.hid (HB.out.trans (B0.mono (by have := HZ.out; omega)))
    clear Sb Rb B0
    go_wp2_with fail
    refine bodyPost_ret (by simp [results, Tryz.results143, go_sem, P0, P1]; try rfl) rfl ?_
    exact ⟨rfl, (HB2.out.setCell (p := ⟨w.heap.size + 1, 0, none⟩) (by show _ ≤ _ + 1; omega) _).setCell (p := ⟨w.heap.size + 1, 1, none⟩) (by show _ ≤ _ + 1; omega) _⟩

set_option maxHeartbeats 4000000 in
theorem shas_any (q : Nat) (F L R n x : Int) (kv : Value) (kx ky t V : Int) (w : World) (h : IsSag w q F L R n x kv) (my : May F L R) (hx : 0 ≤ kx) (ht : kx ≤ t) (ht1 : t ≤ 9223372036854775808) (hy0 : 0 ≤ ky) (hy1 : ky ≤ 4611686018427387904)
    (hV : rawN F L R (t - kx) + ky = V) :
    Calls Tryz.prog 141 #[.pointer (some ⟨q, 0, none⟩), .agg #[.int .u64 kx, .int .u64 ky], .int .u64 t] w fun e w' => e = .returned (.agg #[.int .u64 (hiW V), .int .u64 (loW V)]) ∧ Below w.heap.size w w' := by
  obtain ⟨d, ed⟩ : ∃ z, t - kx = z := ⟨_, rfl⟩
  have hw : IntKind.u64.wrap (t - kx) = d := by rw [IntKind.wrap_u64]; omega
  obtain ⟨m, em⟩ : ∃ z, min d L = z := ⟨_, rfl⟩
  have hm0 : 0 ≤ m := by have := my.l0; omega
  have hm1 : m ≤ d := by omega
  have hV : F * m + R * (d - m) + ky = V := by rw [← hV, ed, rawN, em]
  have mf1 := mul_fits my.f0 my.f1 hm0 (show m ≤ 9223372036854775808 by omega)
  have mf2 := mul_fits my.r0 my.r1 (show 0 ≤ d - m by omega) (show d - m ≤ 9223372036854775808 by omega)
  have M1 := Lib.hid (fun w => wmul_w F m w ⟨my.f0, by have := my.f1; omega⟩ ⟨by omega, by omega⟩)
  have M2 := Lib.hid (fun w => wmul_w R (d - m) w ⟨my.r0, by have := my.r1; omega⟩ ⟨by omega, by omega⟩)
  have sm := hiW_small (x := ky) ⟨hy0, by omega⟩
  have P1 := Lib.hid (fun w => wplus_w (F * m) (R * (d - m)) _ _ w mf1.1 mf2.1 (by omega) rfl rfl)
  have P2 := Lib.hid (fun w => wplus_w (F * m + R * (d - m)) ky 0 ky w (by omega) hy0 (by omega) sm.1 sm.2)
  rw [hV] at P2
  obtain ⟨g, eg⟩ : ∃ z, d - m = z := ⟨_, rfl⟩
  have hw2 : IntKind.u64.wrap (d - m) = g := by rw [IntKind.wrap_u64]; omega
  rw [eg] at M2 P1 P2
  obtain ⟨r1, er1⟩ : ∃ z, F * m = z := ⟨_, rfl⟩
  obtain ⟨r2, er2⟩ : ∃ z, R * g = z := ⟨_, rfl⟩
  rw [er1] at M1 P1 P2
  rw [er2] at M2 P1 P2
  obtain ⟨s, es⟩ : ∃ z, r1 + r2 = z := ⟨_, rfl⟩
  rw [es] at P1 P2
  obtain ⟨h1, e1⟩ : ∃ z, hiW r1 = z := ⟨_, rfl⟩
  obtain ⟨l1, e2⟩ : ∃ z, loW r1 = z := ⟨_, rfl⟩
  obtain ⟨h2, e3⟩ : ∃ z, hiW r2 = z := ⟨_, rfl⟩
  obtain ⟨l2, e4⟩ : ∃ z, loW r2 = z := ⟨_, rfl⟩
  obtain ⟨h3, e5⟩ : ∃ z, hiW s = z := ⟨_, rfl⟩
  obtain ⟨l3, e6⟩ : ∃ z, loW s = z := ⟨_, rfl⟩
  obtain ⟨h4, e7⟩ : ∃ z, hiW V = z := ⟨_, rfl⟩
  obtain ⟨l4, e8⟩ : ∃ z, loW V = z := ⟨_, rfl⟩
  rw [e1, e2] at M1
  rw [e3, e4] at M2
  rw [e1, e2, e3, e4, e5, e6] at P1
  rw [e5, e6, e7, e8] at P2
  rw [e7, e8]
  obtain ⟨ws, hws⟩ : ∃ y, (w.alloc (.cells #[.int .u64 kx, .int .u64 ky] 192)).alloc (.cells #[.int .u64 0, .int .u64 0] 137) = y := ⟨_, rfl⟩
  have hz1 : ws.heap.size = w.heap.size + 2 := by rw [← hws]; simp
  have hB1 : Below w.heap.size w ws := by rw [← hws]; go_grown
  have bA : Blk ws w.heap.size 192 #[.int .u64 kx, .int .u64 ky] := by rw [← hws]; exact (Blk.new w _ _).alloc _
  have bR : Blk ws (w.heap.size + 1) 137 #[.int .u64 0, .int .u64 0] := by rw [← hws]; exact Blk.new_at (by simp)
  have bQ : Blk ws q 123 #[.int .u64 F, .int .u64 L, .int .u64 R, .bool true, .int .i64 n, .int .u64 x, kv] := Blk.next h hB1
  have HE := Lib.hid hws
  have HB := Lib.hid hB1
  have HZ := Lib.hid hz1
  have HA := Lib.hid bA
  have HBR := Lib.hid bR
  have q1 : World.cell? ws ⟨q, 1, none⟩ = some (.int .u64 L) := bQ.get 1 rfl
  have a0 : World.cell? ws ⟨w.heap.size, 0, none⟩ = some (.int .u64 kx) := bA.get 0 rfl
  have KP : Hid (∀ w', Below (ws.heap.size) ws w' → (w'.cell? ⟨q, 0, none⟩ = some (.int .u64 F) ∧ w'.cell? ⟨q, 2, none⟩ = some (.int .u64 R) ∧ w'.cell? ⟨w.heap.size, 0, none⟩ = some (.int .u64 kx)) ∧ Below (ws.heap.size) ws w') := fun w' hb => ⟨⟨((Blk.next bQ hb).get 0 rfl), ((Blk.next bQ hb).get 2 rfl), ((Blk.next bA hb).get 0 rfl)⟩, hb⟩
  clear h my hx ht ht1 hy0 hy1 hV sm ed er1 er2 es eg e1 e2 e3 e4 e5 e6 e7 e8 bA bQ bR mf1 mf2 hws hB1 hz1 hm0 hm1
  go_enter Tryz.func141, Tryz.ntmps141
  go_wp2_with fail
  go_upto_region 1 with (fail)
  rw [HE.out]
  clear HE
  go_quiet (fail)
  go_upto_region 2 with (fail)
  clear q1 a0
  go_cut [8] (fun sv wc => ∃ q', sv = .pointer (some ⟨q', 0, none⟩) ∧ Blk wc q' 137 #[.int .u64 h3, .int .u64 l3] ∧ Blk wc (w.heap.size + 1) 137 #[.int .u64 0, .int .u64 0] ∧ Blk wc w.heap.size 192 #[.int .u64 kx, .int .u64 ky] ∧ q' ≠ w.heap.size + 1 ∧ ws.heap.size ≤ q' ∧ Below ws.heap.size ws wc)
  case first =>
    refine wp_region_noPanic ?_
    refine wp_region_held_drew (S := fun w' => (w'.cell? ⟨q, 0, none⟩ = some (.int .u64 F) ∧ w'.cell? ⟨q, 2, none⟩ = some (.int .u64 R) ∧ w'.cell? ⟨w.heap.size, 0, none⟩ = some (.int .u64 kx)) ∧ Below (ws.heap.size) ws w') (by kernel_rfl) (KP.out _ (below_of_drew ((below_drewN' (Below.refl ws.heap.size ws) nq)))) (fun hH => ?_)
    have RSb0 : Blk ((ws.drewN nq)).drew (w.heap.size + 1) (137) #[.int .u64 0, .int .u64 0] := Blk.drew (HBR.out.drewN nq)
    have RAb0 : Blk ((ws.drewN nq)).drew (w.heap.size) (192) #[.int .u64 kx, .int .u64 ky] := Blk.drew (HA.out.drewN nq)
    have hbR := below_of_drew ((below_drewN' (Below.refl ws.heap.size ws) nq))
    first | (refine wpAnyH_take (i := 0) (v := undef) rfl ?_ ?_ ?_ (fun _ _ _ h => h) ?_ ?_ ?_; kernel_rfl; kernel_rfl; kernel_rfl; exact Or.inr ⟨by rfl, rfl⟩; exact hH) | (refine wpAnyH_take (i := 0) (v := ?_) rfl ?_ ?_ ?_ (fun _ _ _ h => h) ?_ ?_ ?_; rotate_left; kernel_rfl; kernel_rfl; kernel_rfl; (focus (refine Or.inl ⟨by rfl, ?_⟩; intro w' hSw; (try dsimp only at hSw); go_simp)); exact hH) | (refine wpAnyH_take (i := 0) (v := ?_) rfl ?_ ?_ ?_ (fun _ _ _ h => h) ?_ ?_ ?_; rotate_left; kernel_rfl; kernel_rfl; kernel_rfl; (focus (refine Or.inl ⟨by rfl, ?_⟩; intro w' hSw; (try dsimp only at hSw); go_simp; with_reducible rfl)); exact hH)
    try simp only [Act.put, List.getElem_toArray, List.getElem_cons_succ, List.getElem_cons_zero, List.setIfInBounds_toArray, List.set_cons_zero, List.set_cons_succ]
    first | (refine wpAnyH_take (i := 1) (v := undef) rfl ?_ ?_ ?_ (fun _ _ _ h => h) ?_ ?_ ?_; kernel_rfl; kernel_rfl; kernel_rfl; exact Or.inr ⟨by rfl, rfl⟩; exact hH) | (refine wpAnyH_take (i := 1) (v := ?_) rfl ?_ ?_ ?_ (fun _ _ _ h => h) ?_ ?_ ?_; rotate_left; kernel_rfl; kernel_rfl; kernel_rfl; (focus (refine Or.inl ⟨by rfl, ?_⟩; intro w' hSw; (try dsimp only at hSw); go_simp)); exact hH) | (refine wpAnyH_take (i := 1) (v := ?_) rfl ?_ ?_ ?_ (fun _ _ _ h => h) ?_ ?_ ?_; rotate_left; kernel_rfl; kernel_rfl; kernel_rfl; (focus (refine Or.inl ⟨by rfl, ?_⟩; intro w' hSw; (try dsimp only at hSw); go_simp; with_reducible rfl)); exact hH)
    try simp only [Act.put, List.getElem_toArray, List.getElem_cons_succ, List.getElem_cons_zero, List.setIfInBounds_toArray, List.set_cons_zero, List.set_cons_succ]
    first | (refine wpAnyH_take (i := 2) (v := undef) rfl ?_ ?_ ?_ (fun _ _ _ h => h) ?_ ?_ ?_; kernel_rfl; kernel_rfl; kernel_rfl; exact Or.inr ⟨by rfl, rfl⟩; exact hH) | (refine wpAnyH_take (i := 2) (v := ?_) rfl ?_ ?_ ?_ (fun _ _ _ h => h) ?_ ?_ ?_; rotate_left; kernel_rfl; kernel_rfl; kernel_rfl; (focus (refine Or.inl ⟨by rfl, ?_⟩; intro w' hSw; (try dsimp only at hSw); go_simp)); exact hH) | (refine wpAnyH_take (i := 2) (v := ?_) rfl ?_ ?_ ?_ (fun _ _ _ h => h) ?_ ?_ ?_; rotate_left; kernel_rfl; kernel_rfl; kernel_rfl; (focus (refine Or.inl ⟨by rfl, ?_⟩; intro w' hSw; (try dsimp only at hSw); go_simp; with_reducible rfl)); exact hH)
    try simp only [Act.put, List.getElem_toArray, List.getElem_cons_succ, List.getElem_cons_zero, List.setIfInBounds_toArray, List.set_cons_zero, List.set_cons_succ]
    first | (refine wpAnyH_take (i := 3) (v := undef) rfl ?_ ?_ ?_ (fun _ _ _ h => h) ?_ ?_ ?_; kernel_rfl; kernel_rfl; kernel_rfl; exact Or.inr ⟨by rfl, rfl⟩; exact hH) | (refine wpAnyH_take (i := 3) (v := ?_) rfl ?_ ?_ ?_ (fun _ _ _ h => h) ?_ ?_ ?_; rotate_left; kernel_rfl; kernel_rfl; kernel_rfl; (focus (refine Or.inl ⟨by rfl, ?_⟩; intro w' hSw; (try dsimp only at hSw); go_simp)); exact hH) | (refine wpAnyH_take (i := 3) (v := ?_) rfl ?_ ?_ ?_ (fun _ _ _ h => h) ?_ ?_ ?_; rotate_left; kernel_rfl; kernel_rfl; kernel_rfl; (focus (refine Or.inl ⟨by rfl, ?_⟩; intro w' hSw; (try dsimp only at hSw); go_simp; with_reducible rfl)); exact hH)
    try simp only [Act.put, List.getElem_toArray, List.getElem_cons_succ, List.getElem_cons_zero, List.setIfInBounds_toArray, List.set_cons_zero, List.set_cons_succ]
    first | (refine wpAnyH_take (i := 4) (v := undef) rfl ?_ ?_ ?_ (fun _ _ _ h => h) ?_ ?_ ?_; kernel_rfl; kernel_rfl; kernel_rfl; exact Or.inr ⟨by rfl, rfl⟩; exact hH) | (refine wpAnyH_take (i := 4) (v := ?_) rfl ?_ ?_ ?_ (fun _ _ _ h => h) ?_ ?_ ?_; rotate_left; kernel_rfl; kernel_rfl; kernel_rfl; (focus (refine Or.inl ⟨by rfl, ?_⟩; intro w' hSw; (try dsimp only at hSw); go_simp)); exact hH) | (refine wpAnyH_take (i := 4) (v := ?_) rfl ?_ ?_ ?_ (fun _ _ _ h => h) ?_ ?_ ?_; rotate_left; kernel_rfl; kernel_rfl; kernel_rfl; (focus (refine Or.inl ⟨by rfl, ?_⟩; intro w' hSw; (try dsimp only at hSw); go_simp; with_reducible rfl)); exact hH)
    try simp only [Act.put, List.getElem_toArray, List.getElem_cons_succ, List.getElem_cons_zero, List.setIfInBounds_toArray, List.set_cons_zero, List.set_cons_succ]
    first | (refine wpAnyH_take (i := 5) (v := undef) rfl ?_ ?_ ?_ (fun _ _ _ h => h) ?_ ?_ ?_; kernel_rfl; kernel_rfl; kernel_rfl; exact Or.inr ⟨by rfl, rfl⟩; exact hH) | (refine wpAnyH_take (i := 5) (v := ?_) rfl ?_ ?_ ?_ (fun _ _ _ h => h) ?_ ?_ ?_; rotate_left; kernel_rfl; kernel_rfl; kernel_rfl; (focus (refine Or.inl ⟨by rfl, ?_⟩; intro w' hSw; (try dsimp only at hSw); go_simp)); exact hH) | (refine wpAnyH_take (i := 5) (v := ?_) rfl ?_ ?_ ?_ (fun _ _ _ h => h) ?_ ?_ ?_; rotate_left; kernel_rfl; kernel_rfl; kernel_rfl; (focus (refine Or.inl ⟨by rfl, ?_⟩; intro w' hSw; (try dsimp only at hSw); go_simp; with_reducible rfl)); exact hH)
    try simp only [Act.put, List.getElem_toArray, List.getElem_cons_succ, List.getElem_cons_zero, List.setIfInBounds_toArray, List.set_cons_zero, List.set_cons_succ]
    first | (refine wpAnyH_take (i := 7) (v := undef) rfl ?_ ?_ ?_ (fun _ _ _ h => h) ?_ ?_ ?_; kernel_rfl; kernel_rfl; kernel_rfl; exact Or.inr ⟨by rfl, rfl⟩; exact hH) | (refine wpAnyH_take (i := 7) (v := ?_) rfl ?_ ?_ ?_ (fun _ _ _ h => h) ?_ ?_ ?_; rotate_left; kernel_rfl; kernel_rfl; kernel_rfl; (focus (refine Or.inl ⟨by rfl, ?_⟩; intro w' hSw; (try dsimp only at hSw); go_simp)); exact hH) | (refine wpAnyH_take (i := 7) (v := ?_) rfl ?_ ?_ ?_ (fun _ _ _ h => h) ?_ ?_ ?_; rotate_left; kernel_rfl; kernel_rfl; kernel_rfl; (focus (refine Or.inl ⟨by rfl, ?_⟩; intro w' hSw; (try dsimp only at hSw); go_simp; with_reducible rfl)); exact hH)
    try simp only [Act.put, List.getElem_toArray, List.getElem_cons_succ, List.getElem_cons_zero, List.setIfInBounds_toArray, List.set_cons_zero, List.set_cons_succ]
    first | (refine wpAnyH_take (i := 8) (v := undef) rfl ?_ ?_ ?_ (fun _ _ _ h => h) ?_ ?_ ?_; kernel_rfl; kernel_rfl; kernel_rfl; exact Or.inr ⟨by rfl, rfl⟩; exact hH) | (refine wpAnyH_take (i := 8) (v := ?_) rfl ?_ ?_ ?_ (fun _ _ _ h => h) ?_ ?_ ?_; rotate_left; kernel_rfl; kernel_rfl; kernel_rfl; (focus (refine Or.inl ⟨by rfl, ?_⟩; intro w' hSw; (try dsimp only at hSw); go_simp)); exact hH) | (refine wpAnyH_take (i := 8) (v := ?_) rfl ?_ ?_ ?_ (fun _ _ _ h => h) ?_ ?_ ?_; rotate_left; kernel_rfl; kernel_rfl; kernel_rfl; (focus (refine Or.inl ⟨by rfl, ?_⟩; intro w' hSw; (try dsimp only at hSw); go_simp; with_reducible rfl)); exact hH)
    try simp only [Act.put, List.getElem_toArray, List.getElem_cons_succ, List.getElem_cons_zero, List.setIfInBounds_toArray, List.set_cons_zero, List.set_cons_succ]
    first | (refine wpAnyH_take (i := 9) (v := undef) rfl ?_ ?_ ?_ (fun _ _ _ h => h) ?_ ?_ ?_; kernel_rfl; kernel_rfl; kernel_rfl; exact Or.inr ⟨by rfl, rfl⟩; exact hH) | (refine wpAnyH_take (i := 9) (v := ?_) rfl ?_ ?_ ?_ (fun _ _ _ h => h) ?_ ?_ ?_; rotate_left; kernel_rfl; kernel_rfl; kernel_rfl; (focus (refine Or.inl ⟨by rfl, ?_⟩; intro w' hSw; (try dsimp only at hSw); go_simp)); exact hH) | (refine wpAnyH_take (i := 9) (v := ?_) rfl ?_ ?_ ?_ (fun _ _ _ h => h) ?_ ?_ ?_; rotate_left; kernel_rfl; kernel_rfl; kernel_rfl; (focus (refine Or.inl ⟨by rfl, ?_⟩; intro w' hSw; (try dsimp only at hSw); go_simp; with_reducible rfl)); exact hH)
    try simp only [Act.put, List.getElem_toArray, List.getElem_cons_succ, List.getElem_cons_zero, List.setIfInBounds_toArray, List.set_cons_zero, List.set_cons_succ]
    first | (refine wpAnyH_take (i := 10) (v := undef) rfl ?_ ?_ ?_ (fun _ _ _ h => h) ?_ ?_ ?_; kernel_rfl; kernel_rfl; kernel_rfl; exact Or.inr ⟨by rfl, rfl⟩; exact hH) | (refine wpAnyH_take (i := 10) (v := ?_) rfl ?_ ?_ ?_ (fun _ _ _ h => h) ?_ ?_ ?_; rotate_left; kernel_rfl; kernel_rfl; kernel_rfl; (focus (refine Or.inl ⟨by rfl, ?_⟩; intro w' hSw; (try dsimp only at hSw); go_simp)); exact hH) | (refine wpAnyH_take (i := 10) (v := ?_) rfl ?_ ?_ ?_ (fun _ _ _ h => h) ?_ ?_ ?_; rotate_left; kernel_rfl; kernel_rfl; kernel_rfl; (focus (refine Or.inl ⟨by rfl, ?_⟩; intro w' hSw; (try dsimp only at hSw); go_simp; with_reducible rfl)); exact hH)
    try simp only [Act.put, List.getElem_toArray, List.getElem_cons_succ, List.getElem_cons_zero, List.setIfInBounds_toArray, List.set_cons_zero, List.set_cons_succ]
    first | (refine wpAnyH_take (i := 11) (v := undef) rfl ?_ ?_ ?_ (fun _ _ _ h => h) ?_ ?_ ?_; kernel_rfl; kernel_rfl; kernel_rfl; exact Or.inr ⟨by rfl, rfl⟩; exact hH) | (refine wpAnyH_take (i := 11) (v := ?_) rfl ?_ ?_ ?_ (fun _ _ _ h => h) ?_ ?_ ?_; rotate_left; kernel_rfl; kernel_rfl; kernel_rfl; (focus (refine Or.inl ⟨by rfl, ?_⟩; intro w' hSw; (try dsimp only at hSw); go_simp)); exact hH) | (refine wpAnyH_take (i := 11) (v := ?_) rfl ?_ ?_ ?_ (fun _ _ _ h => h) ?_ ?_ ?_; rotate_left; kernel_rfl; kernel_rfl; kernel_rfl; (focus (refine Or.inl ⟨by rfl, ?_⟩; intro w' hSw; (try dsimp only at hSw); go_simp; with_reducible rfl)); exact hH)
    try simp only [Act.put, List.getElem_toArray, List.getElem_cons_succ, List.getElem_cons_zero, List.setIfInBounds_toArray, List.set_cons_zero, List.set_cons_succ]
    first | (refine wpAnyH_take (i := 12) (v := undef) rfl ?_ ?_ ?_ (fun _ _ _ h => h) ?_ ?_ ?_; kernel_rfl; kernel_rfl; kernel_rfl; exact Or.inr ⟨by rfl, rfl⟩; exact hH) | (refine wpAnyH_take (i := 12) (v := ?_) rfl ?_ ?_ ?_ (fun _ _ _ h => h) ?_ ?_ ?_; rotate_left; kernel_rfl; kernel_rfl; kernel_rfl; (focus (refine Or.inl ⟨by rfl, ?_⟩; intro w' hSw; (try dsimp only at hSw); go_simp)); exact hH) | (refine wpAnyH_take (i := 12) (v := ?_) rfl ?_ ?_ ?_ (fun _ _ _ h => h) ?_ ?_ ?_; rotate_left; kernel_rfl; kernel_rfl; kernel_rfl; (focus (refine Or.inl ⟨by rfl, ?_⟩; intro w' hSw; (try dsimp only at hSw); go_simp; with_reducible rfl)); exact hH)
    try simp only [Act.put, List.getElem_toArray, List.getElem_cons_succ, List.getElem_cons_zero, List.setIfInBounds_toArray, List.set_cons_zero, List.set_cons_succ]
    first | (refine wpAnyH_take (i := 13) (v := undef) rfl ?_ ?_ ?_ (fun _ _ _ h => h) ?_ ?_ ?_; kernel_rfl; kernel_rfl; kernel_rfl; exact Or.inr ⟨by rfl, rfl⟩; exact hH) | (refine wpAnyH_take (i := 13) (v := ?_) rfl ?_ ?_ ?_ (fun _ _ _ h => h) ?_ ?_ ?_; rotate_left; kernel_rfl; kernel_rfl; kernel_rfl; (focus (refine Or.inl ⟨by rfl, ?_⟩; intro w' hSw; (try dsimp only at hSw); go_simp)); exact hH) | (refine wpAnyH_take (i := 13) (v := ?_) rfl ?_ ?_ ?_ (fun _ _ _ h => h) ?_ ?_ ?_; rotate_left; kernel_rfl; kernel_rfl; kernel_rfl; (focus (refine Or.inl ⟨by rfl, ?_⟩; intro w' hSw; (try dsimp only at hSw); go_simp; with_reducible rfl)); exact hH)
    try simp only [Act.put, List.getElem_toArray, List.getElem_cons_succ, List.getElem_cons_zero, List.setIfInBounds_toArray, List.set_cons_zero, List.set_cons_succ]
    first | (refine wpAnyH_take (i := 14) (v := undef) rfl ?_ ?_ ?_ (fun _ _ _ h => h) ?_ ?_ ?_; kernel_rfl; kernel_rfl; kernel_rfl; exact Or.inr ⟨by rfl, rfl⟩; exact hH) | (refine wpAnyH_take (i := 14) (v := ?_) rfl ?_ ?_ ?_ (fun _ _ _ h => h) ?_ ?_ ?_; rotate_left; kernel_rfl; kernel_rfl; kernel_rfl; (focus (refine Or.inl ⟨by rfl, ?_⟩; intro w' hSw; (try dsimp only at hSw); go_simp)); exact hH) | (refine wpAnyH_take (i := 14) (v := ?_) rfl ?_ ?_ ?_ (fun _ _ _ h => h) ?_ ?_ ?_; rotate_left; kernel_rfl; kernel_rfl; kernel_rfl; (focus (refine Or.inl ⟨by rfl, ?_⟩; intro w' hSw; (try dsimp only at hSw); go_simp; with_reducible rfl)); exact hH)
    try simp only [Act.put, List.getElem_toArray, List.getElem_cons_succ, List.getElem_cons_zero, List.setIfInBounds_toArray, List.set_cons_zero, List.set_cons_succ]
    first | (refine wpAnyH_take (i := 15) (v := undef) rfl ?_ ?_ ?_ (fun _ _ _ h => h) ?_ ?_ ?_; kernel_rfl; kernel_rfl; kernel_rfl; exact Or.inr ⟨by rfl, rfl⟩; exact hH) | (refine wpAnyH_take (i := 15) (v := ?_) rfl ?_ ?_ ?_ (fun _ _ _ h => h) ?_ ?_ ?_; rotate_left; kernel_rfl; kernel_rfl; kernel_rfl; (focus (refine Or.inl ⟨by rfl, ?_⟩; intro w' hSw; (try dsimp only at hSw); go_simp)); exact hH) | (refine wpAnyH_take (i := 15) (v := ?_) rfl ?_ ?_ ?_ (fun _ _ _ h => h) ?_ ?_ ?_; rotate_left; kernel_rfl; kernel_rfl; kernel_rfl; (focus (refine Or.inl ⟨by rfl, ?_⟩; intro w' hSw; (try dsimp only at hSw); go_simp; with_reducible rfl)); exact hH)
    try simp only [Act.put, List.getElem_toArray, List.getElem_cons_succ, List.getElem_cons_zero, List.setIfInBounds_toArray, List.set_cons_zero, List.set_cons_succ]
    first | (refine wpAnyH_take (i := 16) (v := undef) rfl ?_ ?_ ?_ (fun _ _ _ h => h) ?_ ?_ ?_; kernel_rfl; kernel_rfl; kernel_rfl; exact Or.inr ⟨by rfl, rfl⟩; exact hH) | (refine wpAnyH_take (i := 16) (v := ?_) rfl ?_ ?_ ?_ (fun _ _ _ h => h) ?_ ?_ ?_; rotate_left; kernel_rfl; kernel_rfl; kernel_rfl; (focus (refine Or.inl ⟨by rfl, ?_⟩; intro w' hSw; (try dsimp only at hSw); go_simp)); exact hH) | (refine wpAnyH_take (i := 16) (v := ?_) rfl ?_ ?_ ?_ (fun _ _ _ h => h) ?_ ?_ ?_; rotate_left; kernel_rfl; kernel_rfl; kernel_rfl; (focus (refine Or.inl ⟨by rfl, ?_⟩; intro w' hSw; (try dsimp only at hSw); go_simp; with_reducible rfl)); exact hH)
    try simp only [Act.put, List.getElem_toArray, List.getElem_cons_succ, List.getElem_cons_zero, List.setIfInBounds_toArray, List.set_cons_zero, List.set_cons_succ]
    first | (refine wpAnyH_take (i := 17) (v := undef) rfl ?_ ?_ ?_ (fun _ _ _ h => h) ?_ ?_ ?_; kernel_rfl; kernel_rfl; kernel_rfl; exact Or.inr ⟨by rfl, rfl⟩; exact hH) | (refine wpAnyH_take (i := 17) (v := ?_) rfl ?_ ?_ ?_ (fun _ _ _ h => h) ?_ ?_ ?_; rotate_left; kernel_rfl; kernel_rfl; kernel_rfl; (focus (refine Or.inl ⟨by rfl, ?_⟩; intro w' hSw; (try dsimp only at hSw); go_simp)); exact hH) | (refine wpAnyH_take (i := 17) (v := ?_) rfl ?_ ?_ ?_ (fun _ _ _ h => h) ?_ ?_ ?_; rotate_left; kernel_rfl; kernel_rfl; kernel_rfl; (focus (refine Or.inl ⟨by rfl, ?_⟩; intro w' hSw; (try dsimp only at hSw); go_simp; with_reducible rfl)); exact hH)
    try simp only [Act.put, List.getElem_toArray, List.getElem_cons_succ, List.getElem_cons_zero, List.setIfInBounds_toArray, List.set_cons_zero, List.set_cons_succ]
    refine wpAnyH_ready (rs := [6, 23]) (by kernel_rfl) (by simp) ?_
    refine (AllReadyH.cons rfl (fun K hK => ?_) (AllReadyH.cons rfl (fun K hK => ?_) AllReadyH.nil))
    · skip
      go_simp
      with_reducible refine (M1.out _).mono ?_
      rintro e w1 ⟨rfl, hb1'⟩
      have hb1 : Below (ws.heap.size) ws w1 := below_next hH.2 hb1'
      try go_wp2_with fail
      have RSb1 := Blk.next RSb0 hb1'
      have RSc10 : World.cell? w1 ⟨w.heap.size + 1, 0, none⟩ = some (.int .u64 0) := Blk.get RSb1 0 rfl
      have RSf10 : World.frozen? w1 ⟨w.heap.size + 1, 0, none⟩ = false := Blk.frozen RSb1 0
      have RSc11 : World.cell? w1 ⟨w.heap.size + 1, 1, none⟩ = some (.int .u64 0) := Blk.get RSb1 1 rfl
      have RSf11 : World.frozen? w1 ⟨w.heap.size + 1, 1, none⟩ = false := Blk.frozen RSb1 1
      have RSn1 := Blk.lt RSb1
      have RAb1 := Blk.next RAb0 hb1'
      have RAc10 : World.cell? w1 ⟨w.heap.size, 0, none⟩ = some (.int .u64 kx) := Blk.get RAb1 0 rfl
      have RAf10 : World.frozen? w1 ⟨w.heap.size, 0, none⟩ = false := Blk.frozen RAb1 0
      have RAc11 : World.cell? w1 ⟨w.heap.size, 1, none⟩ = some (.int .u64 ky) := Blk.get RAb1 1 rfl
      have RAf11 : World.frozen? w1 ⟨w.heap.size, 1, none⟩ = false := Blk.frozen RAb1 1
      have RAn1 := Blk.lt RAb1
      refine hK.out _ _ (KP.out _ hb1) (fun hH1 => ?_)
      clear hK K hH
      have hH := hH1
      clear hH1
      try simp only [Act.put, List.getElem_toArray, List.getElem_cons_succ, List.getElem_cons_zero, List.setIfInBounds_toArray, List.set_cons_zero, List.set_cons_succ]
      refine wpAnyH_ready (rs := [18, 23]) (by kernel_rfl) (by simp) ?_
      refine (AllReadyH.cons rfl (fun K hK => ?_) (AllReadyH.cons rfl (fun K hK => ?_) AllReadyH.nil))
      · skip
        go_simp
        with_reducible refine (M2.out _).mono ?_
        rintro e w2 ⟨rfl, hb2'⟩
        have hb2 : Below (ws.heap.size) ws w2 := below_next hH.2 hb2'
        try go_wp2_with fail
        have RSb2 := Blk.next RSb1 hb2'
        have RSc20 : World.cell? w2 ⟨w.heap.size + 1, 0, none⟩ = some (.int .u64 0) := Blk.get RSb2 0 rfl
        have RSf20 : World.frozen? w2 ⟨w.heap.size + 1, 0, none⟩ = false := Blk.frozen RSb2 0
        have RSc21 : World.cell? w2 ⟨w.heap.size + 1, 1, none⟩ = some (.int .u64 0) := Blk.get RSb2 1 rfl
        have RSf21 : World.frozen? w2 ⟨w.heap.size + 1, 1, none⟩ = false := Blk.frozen RSb2 1
        have RSn2 := Blk.lt RSb2
        have RAb2 := Blk.next RAb1 hb2'
        have RAc20 : World.cell? w2 ⟨w.heap.size, 0, none⟩ = some (.int .u64 kx) := Blk.get RAb2 0 rfl
        have RAf20 : World.frozen? w2 ⟨w.heap.size, 0, none⟩ = false := Blk.frozen RAb2 0
        have RAc21 : World.cell? w2 ⟨w.heap.size, 1, none⟩ = some (.int .u64 ky) := Blk.get RAb2 1 rfl
        have RAf21 : World.frozen? w2 ⟨w.heap.size, 1, none⟩ = false := Blk.frozen RAb2 1
        have RAn2 := Blk.lt RAb2
        refine hK.out _ _ (KP.out _ hb2) (fun hH2 => ?_)
        clear hK K hH
        have hH := hH2
        clear hH2
        try simp only [Act.put, List.getElem_toArray, List.getElem_cons_succ, List.getElem_cons_zero, List.setIfInBounds_toArray, List.set_cons_zero, List.set_cons_succ]
        refine wpAnyH_ready (rs := [19, 23]) (by kernel_rfl) (by simp) ?_
        refine (AllReadyH.cons rfl (fun K hK => ?_) (AllReadyH.cons rfl (fun K hK => ?_) AllReadyH.nil))
        · skip
          go_simp
          with_reducible refine (P1.out _).mono ?_
          rintro e w3 ⟨rfl, hb3'⟩
          have hb3 : Below (ws.heap.size) ws w3 := below_next hH.2 hb3'
          try go_wp2_with fail
          have RSb3 := Blk.next RSb2 hb3'
          have RSc30 : World.cell? w3 ⟨w.heap.size + 1, 0, none⟩ = some (.int .u64 0) := Blk.get RSb3 0 rfl
          have RSf30 : World.frozen? w3 ⟨w.heap.size + 1, 0, none⟩ = false := Blk.frozen RSb3 0
          have RSc31 : World.cell? w3 ⟨w.heap.size + 1, 1, none⟩ = some (.int .u64 0) := Blk.get RSb3 1 rfl
          have RSf31 : World.frozen? w3 ⟨w.heap.size + 1, 1, none⟩ = false := Blk.frozen RSb3 1
          have RSn3 := Blk.lt RSb3
          have RAb3 := Blk.next RAb2 hb3'
          have RAc30 : World.cell? w3 ⟨w.heap.size, 0, none⟩ = some (.int .u64 kx) := Blk.get RAb3 0 rfl
          have RAf30 : World.frozen? w3 ⟨w.heap.size, 0, none⟩ = false := Blk.frozen RAb3 0
          have RAc31 : World.cell? w3 ⟨w.heap.size, 1, none⟩ = some (.int .u64 ky) := Blk.get RAb3 1 rfl
          have RAf31 : World.frozen? w3 ⟨w.heap.size, 1, none⟩ = false := Blk.frozen RAb3 1
          have RAn3 := Blk.lt RAb3
          refine hK.out _ _ (KP.out _ hb3) (fun hH3 => ?_)
          clear hK K hH
          have hH := hH3
          clear hH3
          try simp only [Act.put, List.getElem_toArray, List.getElem_cons_succ, List.getElem_cons_zero, List.setIfInBounds_toArray, List.set_cons_zero, List.set_cons_succ]
          first | (refine wpAnyH_take (i := 20) (v := undef) rfl ?_ ?_ ?_ (fun _ _ _ h => h) ?_ ?_ ?_; kernel_rfl; kernel_rfl; kernel_rfl; exact Or.inr ⟨by rfl, rfl⟩; exact hH) | (refine wpAnyH_take (i := 20) (v := ?_) rfl ?_ ?_ ?_ (fun _ _ _ h => h) ?_ ?_ ?_; rotate_left; kernel_rfl; kernel_rfl; kernel_rfl; (focus (refine Or.inl ⟨by rfl, ?_⟩; intro w' hSw; (try dsimp only at hSw); go_simp)); exact hH) | (refine wpAnyH_take (i := 20) (v := ?_) rfl ?_ ?_ ?_ (fun _ _ _ h => h) ?_ ?_ ?_; rotate_left; kernel_rfl; kernel_rfl; kernel_rfl; (focus (refine Or.inl ⟨by rfl, ?_⟩; intro w' hSw; (try dsimp only at hSw); go_simp; with_reducible rfl)); exact hH)
          try simp only [Act.put, List.getElem_toArray, List.getElem_cons_succ, List.getElem_cons_zero, List.setIfInBounds_toArray, List.set_cons_zero, List.set_cons_succ]
          first | (refine wpAnyH_take (i := 21) (v := undef) rfl ?_ ?_ ?_ (fun _ _ _ h => h) ?_ ?_ ?_; kernel_rfl; kernel_rfl; kernel_rfl; exact Or.inr ⟨by rfl, rfl⟩; exact hH) | (refine wpAnyH_take (i := 21) (v := ?_) rfl ?_ ?_ ?_ (fun _ _ _ h => h) ?_ ?_ ?_; rotate_left; kernel_rfl; kernel_rfl; kernel_rfl; (focus (refine Or.inl ⟨by rfl, ?_⟩; intro w' hSw; (try dsimp only at hSw); go_simp)); exact hH) | (refine wpAnyH_take (i := 21) (v := ?_) rfl ?_ ?_ ?_ (fun _ _ _ h => h) ?_ ?_ ?_; rotate_left; kernel_rfl; kernel_rfl; kernel_rfl; (focus (refine Or.inl ⟨by rfl, ?_⟩; intro w' hSw; (try dsimp only at hSw); go_simp; with_reducible rfl)); exact hH)
          try simp only [Act.put, List.getElem_toArray, List.getElem_cons_succ, List.getElem_cons_zero, List.setIfInBounds_toArray, List.set_cons_zero, List.set_cons_succ]
          first | (refine wpAnyH_take (i := 22) (v := undef) rfl ?_ ?_ ?_ (fun _ _ _ h => h) ?_ ?_ ?_; kernel_rfl; kernel_rfl; kernel_rfl; exact Or.inr ⟨by rfl, rfl⟩; exact hH) | (refine wpAnyH_take (i := 22) (v := ?_) rfl ?_ ?_ ?_ (fun _ _ _ h => h) ?_ ?_ ?_; rotate_left; kernel_rfl; kernel_rfl; kernel_rfl; (focus (refine Or.inl ⟨by rfl, ?_⟩; intro w' hSw; (try dsimp only at hSw); go_simp)); exact hH) | (refine wpAnyH_take (i := 22) (v := ?_) rfl ?_ ?_ ?_ (fun _ _ _ h => h) ?_ ?_ ?_; rotate_left; kernel_rfl; kernel_rfl; kernel_rfl; (focus (refine Or.inl ⟨by rfl, ?_⟩; intro w' hSw; (try dsimp only at hSw); go_simp; with_reducible rfl)); exact hH)
          try simp only [Act.put, List.getElem_toArray, List.getElem_cons_succ, List.getElem_cons_zero, List.setIfInBounds_toArray, List.set_cons_zero, List.set_cons_succ]
          refine wpAnyH_ready (rs := [23]) (by kernel_rfl) (by simp) ?_
          refine (AllReadyH.cons rfl (fun K hK => ?_) AllReadyH.nil)
          go_simp
          have NERSS4 : w.heap.size + 1 ≠ w3.heap.size := Nat.ne_of_lt (Nat.lt_of_lt_of_eq (Blk.lt RSb3) (by simp))
          have NERAS4 : w.heap.size ≠ w3.heap.size := Nat.ne_of_lt (Nat.lt_of_lt_of_eq (Blk.lt RAb3) (by simp))
          have RSb4 := Blk.alloc RSb3 (.cells #[.int .u64 0, .int .u64 0] 137)
          have RAb4 := Blk.alloc RAb3 (.cells #[.int .u64 0, .int .u64 0] 137)
          have Sb4 : Blk (w3.alloc (.cells #[.int .u64 0, .int .u64 0] 137)) (w3.heap.size) 137 #[.int .u64 0, .int .u64 0] := Blk.new_at (by simp)
          have QGS : ws.heap.size ≤ w3.heap.size := Nat.le_trans (Below.size (hb3)) (Nat.le_of_eq (by simp))
          have hb4 := Below.alloc (hb3) (Below.size (hb3)) (.cells #[.int .u64 0, .int .u64 0] 137)
          refine hK.out _ _ (KP.out _ hb4) (fun hH4 => ?_)
          clear hK K hH
          have hH := hH4
          clear hH4
          try simp only [Act.put, List.getElem_toArray, List.getElem_cons_succ, List.getElem_cons_zero, List.setIfInBounds_toArray, List.set_cons_zero, List.set_cons_succ]
          refine wpAnyH_ready (rs := [24]) (by kernel_rfl) (by simp) ?_
          refine (AllReadyH.cons rfl (fun K hK => ?_) AllReadyH.nil)
          go_simp
          have RSb5 := Blk.alloc RSb3 (.cells #[.int .u64 h3, .int .u64 l3] 137)
          have RAb5 := Blk.alloc RAb3 (.cells #[.int .u64 h3, .int .u64 l3] 137)
          have Sb5 : Blk (w3.alloc (.cells #[.int .u64 h3, .int .u64 l3] 137)) (w3.heap.size) 137 #[.int .u64 h3, .int .u64 l3] := Blk.new_at (by simp)
          have hb5 := Below.alloc (hb3) (Below.size (hb3)) (.cells #[.int .u64 h3, .int .u64 l3] 137)
          refine hK.out _ _ (KP.out _ hb5) (fun hH5 => ?_)
          clear hK K hH
          have hH := hH5
          clear hH5
          try simp only [Act.put, List.getElem_toArray, List.getElem_cons_succ, List.getElem_cons_zero, List.setIfInBounds_toArray, List.set_cons_zero, List.set_cons_succ]
          first | (refine wpAnyH_take (i := 25) (v := undef) rfl ?_ ?_ ?_ (fun _ _ _ h => h) ?_ ?_ ?_; kernel_rfl; kernel_rfl; kernel_rfl; exact Or.inr ⟨by rfl, rfl⟩; exact hH) | (refine wpAnyH_take (i := 25) (v := ?_) rfl ?_ ?_ ?_ (fun _ _ _ h => h) ?_ ?_ ?_; rotate_left; kernel_rfl; kernel_rfl; kernel_rfl; (focus (refine Or.inl ⟨by rfl, ?_⟩; intro w' hSw; (try dsimp only at hSw); go_simp)); exact hH) | (refine wpAnyH_take (i := 25) (v := ?_) rfl ?_ ?_ ?_ (fun _ _ _ h => h) ?_ ?_ ?_; rotate_left; kernel_rfl; kernel_rfl; kernel_rfl; (focus (refine Or.inl ⟨by rfl, ?_⟩; intro w' hSw; (try dsimp only at hSw); go_simp; with_reducible rfl)); exact hH)
          try simp only [Act.put, List.getElem_toArray, List.getElem_cons_succ, List.getElem_cons_zero, List.setIfInBounds_toArray, List.set_cons_zero, List.set_cons_succ]
          refine wpAnyH_done (by kernel_rfl) ?_ _
          refine NoPanic.normal ?_
          go_wp2_with fail
          go_meet
          exact ⟨_, rfl, Sb5, RSb5, RAb5, (by have a := HZ.out; have b := QGS; omega), QGS, hb5⟩
        · skip
          go_simp
          have NERSS6 : w.heap.size + 1 ≠ w2.heap.size := Nat.ne_of_lt (Nat.lt_of_lt_of_eq (Blk.lt RSb2) (by simp))
          have NERAS6 : w.heap.size ≠ w2.heap.size := Nat.ne_of_lt (Nat.lt_of_lt_of_eq (Blk.lt RAb2) (by simp))
          have RSb6 := Blk.alloc RSb2 (.cells #[.int .u64 0, .int .u64 0] 137)
          have RAb6 := Blk.alloc RAb2 (.cells #[.int .u64 0, .int .u64 0] 137)
          have Sb6 : Blk (w2.alloc (.cells #[.int .u64 0, .int .u64 0] 137)) (w2.heap.size) 137 #[.int .u64 0, .int .u64 0] := Blk.new_at (by simp)
          have QGS : ws.heap.size ≤ w2.heap.size := Nat.le_trans (Below.size (hb2)) (Nat.le_of_eq (by simp))
          have hb6 := Below.alloc (hb2) (Below.size (hb2)) (.cells #[.int .u64 0, .int .u64 0] 137)
          refine hK.out _ _ (KP.out _ hb6) (fun hH6 => ?_)
          clear hK K hH
          have hH := hH6
          clear hH6
          try simp only [Act.put, List.getElem_toArray, List.getElem_cons_succ, List.getElem_cons_zero, List.setIfInBounds_toArray, List.set_cons_zero, List.set_cons_succ]
          refine wpAnyH_ready (rs := [19]) (by kernel_rfl) (by simp) ?_
          refine (AllReadyH.cons rfl (fun K hK => ?_) AllReadyH.nil)
          go_simp
          with_reducible refine (P1.out _).mono ?_
          rintro e w7 ⟨rfl, hb7'⟩
          have hb7 : Below (ws.heap.size) ws w7 := below_next hH.2 hb7'
          try go_wp2_with fail
          have RSb7 := Blk.next RSb6 hb7'
          have RSc70 : World.cell? w7 ⟨w.heap.size + 1, 0, none⟩ = some (.int .u64 0) := Blk.get RSb7 0 rfl
          have RSf70 : World.frozen? w7 ⟨w.heap.size + 1, 0, none⟩ = false := Blk.frozen RSb7 0
          have RSc71 : World.cell? w7 ⟨w.heap.size + 1, 1, none⟩ = some (.int .u64 0) := Blk.get RSb7 1 rfl
          have RSf71 : World.frozen? w7 ⟨w.heap.size + 1, 1, none⟩ = false := Blk.frozen RSb7 1
          have RSn7 := Blk.lt RSb7
          have RAb7 := Blk.next RAb6 hb7'
          have RAc70 : World.cell? w7 ⟨w.heap.size, 0, none⟩ = some (.int .u64 kx) := Blk.get RAb7 0 rfl
          have RAf70 : World.frozen? w7 ⟨w.heap.size, 0, none⟩ = false := Blk.frozen RAb7 0
          have RAc71 : World.cell? w7 ⟨w.heap.size, 1, none⟩ = some (.int .u64 ky) := Blk.get RAb7 1 rfl
          have RAf71 : World.frozen? w7 ⟨w.heap.size, 1, none⟩ = false := Blk.frozen RAb7 1
          have RAn7 := Blk.lt RAb7
          have Sb7 := Blk.next Sb6 hb7'
          have Sc70 : World.cell? w7 ⟨w2.heap.size, 0, none⟩ = some (.int .u64 0) := Blk.get Sb7 0 rfl
          have Sf70 : World.frozen? w7 ⟨w2.heap.size, 0, none⟩ = false := Blk.frozen Sb7 0
          have Sc71 : World.cell? w7 ⟨w2.heap.size, 1, none⟩ = some (.int .u64 0) := Blk.get Sb7 1 rfl
          have Sf71 : World.frozen? w7 ⟨w2.heap.size, 1, none⟩ = false := Blk.frozen Sb7 1
          have Sn7 := Blk.lt Sb7
          refine hK.out _ _ (KP.out _ hb7) (fun hH7 => ?_)
          clear hK K hH
          have hH := hH7
          clear hH7
          try simp only [Act.put, List.getElem_toArray, List.getElem_cons_succ, List.getElem_cons_zero, List.setIfInBounds_toArray, List.set_cons_zero, List.set_cons_succ]
          first | (refine wpAnyH_take (i := 20) (v := undef) rfl ?_ ?_ ?_ (fun _ _ _ h => h) ?_ ?_ ?_; kernel_rfl; kernel_rfl; kernel_rfl; exact Or.inr ⟨by rfl, rfl⟩; exact hH) | (refine wpAnyH_take (i := 20) (v := ?_) rfl ?_ ?_ ?_ (fun _ _ _ h => h) ?_ ?_ ?_; rotate_left; kernel_rfl; kernel_rfl; kernel_rfl; (focus (refine Or.inl ⟨by rfl, ?_⟩; intro w' hSw; (try dsimp only at hSw); go_simp)); exact hH) | (refine wpAnyH_take (i := 20) (v := ?_) rfl ?_ ?_ ?_ (fun _ _ _ h => h) ?_ ?_ ?_; rotate_left; kernel_rfl; kernel_rfl; kernel_rfl; (focus (refine Or.inl ⟨by rfl, ?_⟩; intro w' hSw; (try dsimp only at hSw); go_simp; with_reducible rfl)); exact hH)
          try simp only [Act.put, List.getElem_toArray, List.getElem_cons_succ, List.getElem_cons_zero, List.setIfInBounds_toArray, List.set_cons_zero, List.set_cons_succ]
          first | (refine wpAnyH_take (i := 21) (v := undef) rfl ?_ ?_ ?_ (fun _ _ _ h => h) ?_ ?_ ?_; kernel_rfl; kernel_rfl; kernel_rfl; exact Or.inr ⟨by rfl, rfl⟩; exact hH) | (refine wpAnyH_take (i := 21) (v := ?_) rfl ?_ ?_ ?_ (fun _ _ _ h => h) ?_ ?_ ?_; rotate_left; kernel_rfl; kernel_rfl; kernel_rfl; (focus (refine Or.inl ⟨by rfl, ?_⟩; intro w' hSw; (try dsimp only at hSw); go_simp)); exact hH) | (refine wpAnyH_take (i := 21) (v := ?_) rfl ?_ ?_ ?_ (fun _ _ _ h => h) ?_ ?_ ?_; rotate_left; kernel_rfl; kernel_rfl; kernel_rfl; (focus (refine Or.inl ⟨by rfl, ?_⟩; intro w' hSw; (try dsimp only at hSw); go_simp; with_reducible rfl)); exact hH)
          try simp only [Act.put, List.getElem_toArray, List.getElem_cons_succ, List.getElem_cons_zero, List.setIfInBounds_toArray, List.set_cons_zero, List.set_cons_succ]
          first | (refine wpAnyH_take (i := 22) (v := undef) rfl ?_ ?_ ?_ (fun _ _ _ h => h) ?_ ?_ ?_; kernel_rfl; kernel_rfl; kernel_rfl; exact Or.inr ⟨by rfl, rfl⟩; exact hH) | (refine wpAnyH_take (i := 22) (v := ?_) rfl ?_ ?_ ?_ (fun _ _ _ h => h) ?_ ?_ ?_; rotate_left; kernel_rfl; kernel_rfl; kernel_rfl; (focus (refine Or.inl ⟨by rfl, ?_⟩; intro w' hSw; (try dsimp only at hSw); go_simp)); exact hH) | (refine wpAnyH_take (i := 22) (v := ?_) rfl ?_ ?_ ?_ (fun _ _ _ h => h) ?_ ?_ ?_; rotate_left; kernel_rfl; kernel_rfl; kernel_rfl; (focus (refine Or.inl ⟨by rfl, ?_⟩; intro w' hSw; (try dsimp only at hSw); go_simp; with_reducible rfl)); exact hH)
          try simp only [Act.put, List.getElem_toArray, List.getElem_cons_succ, List.getElem_cons_zero, List.setIfInBounds_toArray, List.set_cons_zero, List.set_cons_succ]
          refine wpAnyH_ready (rs := [24]) (by kernel_rfl) (by simp) ?_
          refine (AllReadyH.cons rfl (fun K hK => ?_) AllReadyH.nil)
          go_simp
          have Sb8 := (Blk.put (Blk.put Sb7 0 (.int .u64 h3)) 1 (.int .u64 l3))
          have hb8 : Below (ws.heap.size) ws _ := (Below.setCell (p := ⟨w2.heap.size, 1, none⟩) (Below.setCell (p := ⟨w2.heap.size, 0, none⟩) hb7 (by show _ ≤ w2.heap.size; first | exact Nat.le_refl _ | exact hH.2.size | (simp only [World.size_alloc, World.size_drew] at *; omega)) (.int .u64 h3)) (by show _ ≤ w2.heap.size; first | exact Nat.le_refl _ | exact hH.2.size | (simp only [World.size_alloc, World.size_drew] at *; omega)) (.int .u64 l3))
          have RSb8 := (Blk.far (Blk.far RSb7 (p := ⟨w2.heap.size, 0, none⟩) (show w.heap.size + 1 ≠ w2.heap.size by first | assumption | exact Ne.symm (by assumption) | omega) (.int .u64 h3)) (p := ⟨w2.heap.size, 1, none⟩) (show w.heap.size + 1 ≠ w2.heap.size by first | assumption | exact Ne.symm (by assumption) | omega) (.int .u64 l3))
          have RAb8 := (Blk.far (Blk.far RAb7 (p := ⟨w2.heap.size, 0, none⟩) (show w.heap.size ≠ w2.heap.size by first | assumption | exact Ne.symm (by assumption) | omega) (.int .u64 h3)) (p := ⟨w2.heap.size, 1, none⟩) (show w.heap.size ≠ w2.heap.size by first | assumption | exact Ne.symm (by assumption) | omega) (.int .u64 l3))
          refine hK.out _ _ (KP.out _ hb8) (fun hH8 => ?_)
          clear hK K hH
          have hH := hH8
          clear hH8
          try simp only [Act.put, List.getElem_toArray, List.getElem_cons_succ, List.getElem_cons_zero, List.setIfInBounds_toArray, List.set_cons_zero, List.set_cons_succ]
          first | (refine wpAnyH_take (i := 25) (v := undef) rfl ?_ ?_ ?_ (fun _ _ _ h => h) ?_ ?_ ?_; kernel_rfl; kernel_rfl; kernel_rfl; exact Or.inr ⟨by rfl, rfl⟩; exact hH) | (refine wpAnyH_take (i := 25) (v := ?_) rfl ?_ ?_ ?_ (fun _ _ _ h => h) ?_ ?_ ?_; rotate_left; kernel_rfl; kernel_rfl; kernel_rfl; (focus (refine Or.inl ⟨by rfl, ?_⟩; intro w' hSw; (try dsimp only at hSw); go_simp)); exact hH) | (refine wpAnyH_take (i := 25) (v := ?_) rfl ?_ ?_ ?_ (fun _ _ _ h => h) ?_ ?_ ?_; rotate_left; kernel_rfl; kernel_rfl; kernel_rfl; (focus (refine Or.inl ⟨by rfl, ?_⟩; intro w' hSw; (try dsimp only at hSw); go_simp; with_reducible rfl)); exact hH)
          try simp only [Act.put, List.getElem_toArray, List.getElem_cons_succ, List.getElem_cons_zero, List.setIfInBounds_toArray, List.set_cons_zero, List.set_cons_succ]
          refine wpAnyH_done (by kernel_rfl) ?_ _
          refine NoPanic.normal ?_
          go_wp2_with fail
          go_meet
          exact ⟨_, rfl, Sb8, RSb8, RAb8, (by have a := HZ.out; have b := QGS; omega), QGS, hb8⟩
      · skip
        go_simp
        have NERSS9 : w.heap.size + 1 ≠ w1.heap.size := Nat.ne_of_lt (Nat.lt_of_lt_of_eq (Blk.lt RSb1) (by simp))
        have NERAS9 : w.heap.size ≠ w1.heap.size := Nat.ne_of_lt (Nat.lt_of_lt_of_eq (Blk.lt RAb1) (by simp))
        have RSb9 := Blk.alloc RSb1 (.cells #[.int .u64 0, .int .u64 0] 137)
        have RAb9 := Blk.alloc RAb1 (.cells #[.int .u64 0, .int .u64 0] 137)
        have Sb9 : Blk (w1.alloc (.cells #[.int .u64 0, .int .u64 0] 137)) (w1.heap.size) 137 #[.int .u64 0, .int .u64 0] := Blk.new_at (by simp)
        have QGS : ws.heap.size ≤ w1.heap.size := Nat.le_trans (Below.size (hb1)) (Nat.le_of_eq (by simp))
        have hb9 := Below.alloc (hb1) (Below.size (hb1)) (.cells #[.int .u64 0, .int .u64 0] 137)
        refine hK.out _ _ (KP.out _ hb9) (fun hH9 => ?_)
        clear hK K hH
        have hH := hH9
        clear hH9
        try simp only [Act.put, List.getElem_toArray, List.getElem_cons_succ, List.getElem_cons_zero, List.setIfInBounds_toArray, List.set_cons_zero, List.set_cons_succ]
        refine wpAnyH_ready (rs := [18]) (by kernel_rfl) (by simp) ?_
        refine (AllReadyH.cons rfl (fun K hK => ?_) AllReadyH.nil)
        go_simp
        with_reducible refine (M2.out _).mono ?_
        rintro e w10 ⟨rfl, hb10'⟩
        have hb10 : Below (ws.heap.size) ws w10 := below_next hH.2 hb10'
        try go_wp2_with fail
        have RSb10 := Blk.next RSb9 hb10'
        have RSc100 : World.cell? w10 ⟨w.heap.size + 1, 0, none⟩ = some (.int .u64 0) := Blk.get RSb10 0 rfl
        have RSf100 : World.frozen? w10 ⟨w.heap.size + 1, 0, none⟩ = false := Blk.frozen RSb10 0
        have RSc101 : World.cell? w10 ⟨w.heap.size + 1, 1, none⟩ = some (.int .u64 0) := Blk.get RSb10 1 rfl
        have RSf101 : World.frozen? w10 ⟨w.heap.size + 1, 1, none⟩ = false := Blk.frozen RSb10 1
        have RSn10 := Blk.lt RSb10
        have RAb10 := Blk.next RAb9 hb10'
        have RAc100 : World.cell? w10 ⟨w.heap.size, 0, none⟩ = some (.int .u64 kx) := Blk.get RAb10 0 rfl
        have RAf100 : World.frozen? w10 ⟨w.heap.size, 0, none⟩ = false := Blk.frozen RAb10 0
        have RAc101 : World.cell? w10 ⟨w.heap.size, 1, none⟩ = some (.int .u64 ky) := Blk.get RAb10 1 rfl
        have RAf101 : World.frozen? w10 ⟨w.heap.size, 1, none⟩ = false := Blk.frozen RAb10 1
        have RAn10 := Blk.lt RAb10
        have Sb10 := Blk.next Sb9 hb10'
        have Sc100 : World.cell? w10 ⟨w1.heap.size, 0, none⟩ = some (.int .u64 0) := Blk.get Sb10 0 rfl
        have Sf100 : World.frozen? w10 ⟨w1.heap.size, 0, none⟩ = false := Blk.frozen Sb10 0
        have Sc101 : World.cell? w10 ⟨w1.heap.size, 1, none⟩ = some (.int .u64 0) := Blk.get Sb10 1 rfl
        have Sf101 : World.frozen? w10 ⟨w1.heap.size, 1, none⟩ = false := Blk.frozen Sb10 1
        have Sn10 := Blk.lt Sb10
        refine hK.out _ _ (KP.out _ hb10) (fun hH10 => ?_)
        clear hK K hH
        have hH := hH10
        clear hH10
        try simp only [Act.put, List.getElem_toArray, List.getElem_cons_succ, List.getElem_cons_zero, List.setIfInBounds_toArray, List.set_cons_zero, List.set_cons_succ]
        refine wpAnyH_ready (rs := [19]) (by kernel_rfl) (by simp) ?_
        refine (AllReadyH.cons rfl (fun K hK => ?_) AllReadyH.nil)
        go_simp
        with_reducible refine (P1.out _).mono ?_
        rintro e w11 ⟨rfl, hb11'⟩
        have hb11 : Below (ws.heap.size) ws w11 := below_next hH.2 hb11'
        try go_wp2_with fail
        have RSb11 := Blk.next RSb10 hb11'
        have RSc110 : World.cell? w11 ⟨w.heap.size + 1, 0, none⟩ = some (.int .u64 0) := Blk.get RSb11 0 rfl
        have RSf110 : World.frozen? w11 ⟨w.heap.size + 1, 0, none⟩ = false := Blk.frozen RSb11 0
        have RSc111 : World.cell? w11 ⟨w.heap.size + 1, 1, none⟩ = some (.int .u64 0) := Blk.get RSb11 1 rfl
        have RSf111 : World.frozen? w11 ⟨w.heap.size + 1, 1, none⟩ = false := Blk.frozen RSb11 1
        have RSn11 := Blk.lt RSb11
        have RAb11 := Blk.next RAb10 hb11'
        have RAc110 : World.cell? w11 ⟨w.heap.size, 0, none⟩ = some (.int .u64 kx) := Blk.get RAb11 0 rfl
        have RAf110 : World.frozen? w11 ⟨w.heap.size, 0, none⟩ = false := Blk.frozen RAb11 0
        have RAc111 : World.cell? w11 ⟨w.heap.size, 1, none⟩ = some (.int .u64 ky) := Blk.get RAb11 1 rfl
        have RAf111 : World.frozen? w11 ⟨w.heap.size, 1, none⟩ = false := Blk.frozen RAb11 1
        have RAn11 := Blk.lt RAb11
        have Sb11 := Blk.next Sb10 hb11'
        have Sc110 : World.cell? w11 ⟨w1.heap.size, 0, none⟩ = some (.int .u64 0) := Blk.get Sb11 0 rfl
        have Sf110 : World.frozen? w11 ⟨w1.heap.size, 0, none⟩ = false := Blk.frozen Sb11 0
        have Sc111 : World.cell? w11 ⟨w1.heap.size, 1, none⟩ = some (.int .u64 0) := Blk.get Sb11 1 rfl
        have Sf111 : World.frozen? w11 ⟨w1.heap.size, 1, none⟩ = false := Blk.frozen Sb11 1
        have Sn11 := Blk.lt Sb11
        refine hK.out _ _ (KP.out _ hb11) (fun hH11 => ?_)
        clear hK K hH
        have hH := hH11
        clear hH11
        try simp only [Act.put, List.getElem_toArray, List.getElem_cons_succ, List.getElem_cons_zero, List.setIfInBounds_toArray, List.set_cons_zero, List.set_cons_succ]
        first | (refine wpAnyH_take (i := 20) (v := undef) rfl ?_ ?_ ?_ (fun _ _ _ h => h) ?_ ?_ ?_; kernel_rfl; kernel_rfl; kernel_rfl; exact Or.inr ⟨by rfl, rfl⟩; exact hH) | (refine wpAnyH_take (i := 20) (v := ?_) rfl ?_ ?_ ?_ (fun _ _ _ h => h) ?_ ?_ ?_; rotate_left; kernel_rfl; kernel_rfl; kernel_rfl; (focus (refine Or.inl ⟨by rfl, ?_⟩; intro w' hSw; (try dsimp only at hSw); go_simp)); exact hH) | (refine wpAnyH_take (i := 20) (v := ?_) rfl ?_ ?_ ?_ (fun _ _ _ h => h) ?_ ?_ ?_; rotate_left; kernel_rfl; kernel_rfl; kernel_rfl; (focus (refine Or.inl ⟨by rfl, ?_⟩; intro w' hSw; (try dsimp only at hSw); go_simp; with_reducible rfl)); exact hH)
        try simp only [Act.put, List.getElem_toArray, List.getElem_cons_succ, List.getElem_cons_zero, List.setIfInBounds_toArray, List.set_cons_zero, List.set_cons_succ]
        first | (refine wpAnyH_take (i := 21) (v := undef) rfl ?_ ?_ ?_ (fun _ _ _ h => h) ?_ ?_ ?_; kernel_rfl; kernel_rfl; kernel_rfl; exact Or.inr ⟨by rfl, rfl⟩; exact hH) | (refine wpAnyH_take (i := 21) (v := ?_) rfl ?_ ?_ ?_ (fun _ _ _ h => h) ?_ ?_ ?_; rotate_left; kernel_rfl; kernel_rfl; kernel_rfl; (focus (refine Or.inl ⟨by rfl, ?_⟩; intro w' hSw; (try dsimp only at hSw); go_simp)); exact hH) | (refine wpAnyH_take (i := 21) (v := ?_) rfl ?_ ?_ ?_ (fun _ _ _ h => h) ?_ ?_ ?_; rotate_left; kernel_rfl; kernel_rfl; kernel_rfl; (focus (refine Or.inl ⟨by rfl, ?_⟩; intro w' hSw; (try dsimp only at hSw); go_simp; with_reducible rfl)); exact hH)
        try simp only [Act.put, List.getElem_toArray, List.getElem_cons_succ, List.getElem_cons_zero, List.setIfInBounds_toArray, List.set_cons_zero, List.set_cons_succ]
        first | (refine wpAnyH_take (i := 22) (v := undef) rfl ?_ ?_ ?_ (fun _ _ _ h => h) ?_ ?_ ?_; kernel_rfl; kernel_rfl; kernel_rfl; exact Or.inr ⟨by rfl, rfl⟩; exact hH) | (refine wpAnyH_take (i := 22) (v := ?_) rfl ?_ ?_ ?_ (fun _ _ _ h => h) ?_ ?_ ?_; rotate_left; kernel_rfl; kernel_rfl; kernel_rfl; (focus (refine Or.inl ⟨by rfl, ?_⟩; intro w' hSw; (try dsimp only at hSw); go_simp)); exact hH) | (refine wpAnyH_take (i := 22) (v := ?_) rfl ?_ ?_ ?_ (fun _ _ _ h => h) ?_ ?_ ?_; rotate_left; kernel_rfl; kernel_rfl; kernel_rfl; (focus (refine Or.inl ⟨by rfl, ?_⟩; intro w' hSw; (try dsimp only at hSw); go_simp; with_reducible rfl)); exact hH)
        try simp only [Act.put, List.getElem_toArray, List.getElem_cons_succ, List.getElem_cons_zero, List.setIfInBounds_toArray, List.set_cons_zero, List.set_cons_succ]
        refine wpAnyH_ready (rs := [24]) (by kernel_rfl) (by simp) ?_
        refine (AllReadyH.cons rfl (fun K hK => ?_) AllReadyH.nil)
        go_simp
        have Sb12 := (Blk.put (Blk.put Sb11 0 (.int .u64 h3)) 1 (.int .u64 l3))
        have hb12 : Below (ws.heap.size) ws _ := (Below.setCell (p := ⟨w1.heap.size, 1, none⟩) (Below.setCell (p := ⟨w1.heap.size, 0, none⟩) hb11 (by show _ ≤ w1.heap.size; first | exact Nat.le_refl _ | exact hH.2.size | (simp only [World.size_alloc, World.size_drew] at *; omega)) (.int .u64 h3)) (by show _ ≤ w1.heap.size; first | exact Nat.le_refl _ | exact hH.2.size | (simp only [World.size_alloc, World.size_drew] at *; omega)) (.int .u64 l3))
        have RSb12 := (Blk.far (Blk.far RSb11 (p := ⟨w1.heap.size, 0, none⟩) (show w.heap.size + 1 ≠ w1.heap.size by first | assumption | exact Ne.symm (by assumption) | omega) (.int .u64 h3)) (p := ⟨w1.heap.size, 1, none⟩) (show w.heap.size + 1 ≠ w1.heap.size by first | assumption | exact Ne.symm (by assumption) | omega) (.int .u64 l3))
        have RAb12 := (Blk.far (Blk.far RAb11 (p := ⟨w1.heap.size, 0, none⟩) (show w.heap.size ≠ w1.heap.size by first | assumption | exact Ne.symm (by assumption) | omega) (.int .u64 h3)) (p := ⟨w1.heap.size, 1, none⟩) (show w.heap.size ≠ w1.heap.size by first | assumption | exact Ne.symm (by assumption) | omega) (.int .u64 l3))
        refine hK.out _ _ (KP.out _ hb12) (fun hH12 => ?_)
        clear hK K hH
        have hH := hH12
        clear hH12
        try simp only [Act.put, List.getElem_toArray, List.getElem_cons_succ, List.getElem_cons_zero, List.setIfInBounds_toArray, List.set_cons_zero, List.set_cons_succ]
        first | (refine wpAnyH_take (i := 25) (v := undef) rfl ?_ ?_ ?_ (fun _ _ _ h => h) ?_ ?_ ?_; kernel_rfl; kernel_rfl; kernel_rfl; exact Or.inr ⟨by rfl, rfl⟩; exact hH) | (refine wpAnyH_take (i := 25) (v := ?_) rfl ?_ ?_ ?_ (fun _ _ _ h => h) ?_ ?_ ?_; rotate_left; kernel_rfl; kernel_rfl; kernel_rfl; (focus (refine Or.inl ⟨by rfl, ?_⟩; intro w' hSw; (try dsimp only at hSw); go_simp)); exact hH) | (refine wpAnyH_take (i := 25) (v := ?_) rfl ?_ ?_ ?_ (fun _ _ _ h => h) ?_ ?_ ?_; rotate_left; kernel_rfl; kernel_rfl; kernel_rfl; (focus (refine Or.inl ⟨by rfl, ?_⟩; intro w' hSw; (try dsimp only at hSw); go_simp; with_reducible rfl)); exact hH)
        try simp only [Act.put, List.getElem_toArray, List.getElem_cons_succ, List.getElem_cons_zero, List.setIfInBounds_toArray, List.set_cons_zero, List.set_cons_succ]
        refine wpAnyH_done (by kernel_rfl) ?_ _
        refine NoPanic.normal ?_
        go_wp2_with fail
        go_meet
        exact ⟨_, rfl, Sb12, RSb12, RAb12, (by have a := HZ.out; have b := QGS; omega), QGS, hb12⟩
    · skip
      go_simp
      have NERSS13 : w.heap.size + 1 ≠ ws.heap.size := Nat.ne_of_lt (Nat.lt_of_lt_of_eq (Blk.lt RSb0) (by simp))
      have NERAS13 : w.heap.size ≠ ws.heap.size := Nat.ne_of_lt (Nat.lt_of_lt_of_eq (Blk.lt RAb0) (by simp))
      have RSb13 := Blk.alloc RSb0 (.cells #[.int .u64 0, .int .u64 0] 137)
      have RAb13 := Blk.alloc RAb0 (.cells #[.int .u64 0, .int .u64 0] 137)
      have Sb13 : Blk ((ws.drewN nq).drew.alloc (.cells #[.int .u64 0, .int .u64 0] 137)) (ws.heap.size) 137 #[.int .u64 0, .int .u64 0] := Blk.new_at (by simp)
      have QGS : ws.heap.size ≤ ws.heap.size := Nat.le_trans (Below.size (hbR)) (Nat.le_of_eq (by simp))
      have hb13 := Below.alloc (hbR) (Below.size (hbR)) (.cells #[.int .u64 0, .int .u64 0] 137)
      refine hK.out _ _ (KP.out _ hb13) (fun hH13 => ?_)
      clear hK K hH
      have hH := hH13
      clear hH13
      try simp only [Act.put, List.getElem_toArray, List.getElem_cons_succ, List.getElem_cons_zero, List.setIfInBounds_toArray, List.set_cons_zero, List.set_cons_succ]
      refine wpAnyH_ready (rs := [6]) (by kernel_rfl) (by simp) ?_
      refine (AllReadyH.cons rfl (fun K hK => ?_) AllReadyH.nil)
      go_simp
      with_reducible refine (M1.out _).mono ?_
      rintro e w14 ⟨rfl, hb14'⟩
      have hb14 : Below (ws.heap.size) ws w14 := below_next hH.2 hb14'
      try go_wp2_with fail
      have RSb14 := Blk.next RSb13 hb14'
      have RSc140 : World.cell? w14 ⟨w.heap.size + 1, 0, none⟩ = some (.int .u64 0) := Blk.get RSb14 0 rfl
      have RSf140 : World.frozen? w14 ⟨w.heap.size + 1, 0, none⟩ = false := Blk.frozen RSb14 0
      have RSc141 : World.cell? w14 ⟨w.heap.size + 1, 1, none⟩ = some (.int .u64 0) := Blk.get RSb14 1 rfl
      have RSf141 : World.frozen? w14 ⟨w.heap.size + 1, 1, none⟩ = false := Blk.frozen RSb14 1
      have RSn14 := Blk.lt RSb14
      have RAb14 := Blk.next RAb13 hb14'
      have RAc140 : World.cell? w14 ⟨w.heap.size, 0, none⟩ = some (.int .u64 kx) := Blk.get RAb14 0 rfl
      have RAf140 : World.frozen? w14 ⟨w.heap.size, 0, none⟩ = false := Blk.frozen RAb14 0
      have RAc141 : World.cell? w14 ⟨w.heap.size, 1, none⟩ = some (.int .u64 ky) := Blk.get RAb14 1 rfl
      have RAf141 : World.frozen? w14 ⟨w.heap.size, 1, none⟩ = false := Blk.frozen RAb14 1
      have RAn14 := Blk.lt RAb14
      have Sb14 := Blk.next Sb13 hb14'
      have Sc140 : World.cell? w14 ⟨ws.heap.size, 0, none⟩ = some (.int .u64 0) := Blk.get Sb14 0 rfl
      have Sf140 : World.frozen? w14 ⟨ws.heap.size, 0, none⟩ = false := Blk.frozen Sb14 0
      have Sc141 : World.cell? w14 ⟨ws.heap.size, 1, none⟩ = some (.int .u64 0) := Blk.get Sb14 1 rfl
      have Sf141 : World.frozen? w14 ⟨ws.heap.size, 1, none⟩ = false := Blk.frozen Sb14 1
      have Sn14 := Blk.lt Sb14
      refine hK.out _ _ (KP.out _ hb14) (fun hH14 => ?_)
      clear hK K hH
      have hH := hH14
      clear hH14
      try simp only [Act.put, List.getElem_toArray, List.getElem_cons_succ, List.getElem_cons_zero, List.setIfInBounds_toArray, List.set_cons_zero, List.set_cons_succ]
      refine wpAnyH_ready (rs := [18]) (by kernel_rfl) (by simp) ?_
      refine (AllReadyH.cons rfl (fun K hK => ?_) AllReadyH.nil)
      go_simp
      with_reducible refine (M2.out _).mono ?_
      rintro e w15 ⟨rfl, hb15'⟩
      have hb15 : Below (ws.heap.size) ws w15 := below_next hH.2 hb15'
      try go_wp2_with fail
      have RSb15 := Blk.next RSb14 hb15'
      have RSc150 : World.cell? w15 ⟨w.heap.size + 1, 0, none⟩ = some (.int .u64 0) := Blk.get RSb15 0 rfl
      have RSf150 : World.frozen? w15 ⟨w.heap.size + 1, 0, none⟩ = false := Blk.frozen RSb15 0
      have RSc151 : World.cell? w15 ⟨w.heap.size + 1, 1, none⟩ = some (.int .u64 0) := Blk.get RSb15 1 rfl
      have RSf151 : World.frozen? w15 ⟨w.heap.size + 1, 1, none⟩ = false := Blk.frozen RSb15 1
      have RSn15 := Blk.lt RSb15
      have RAb15 := Blk.next RAb14 hb15'
      have RAc150 : World.cell? w15 ⟨w.heap.size, 0, none⟩ = some (.int .u64 kx) := Blk.get RAb15 0 rfl
      have RAf150 : World.frozen? w15 ⟨w.heap.size, 0, none⟩ = false := Blk.frozen RAb15 0
      have RAc151 : World.cell? w15 ⟨w.heap.size, 1, none⟩ = some (.int .u64 ky) := Blk.get RAb15 1 rfl
      have RAf151 : World.frozen? w15 ⟨w.heap.size, 1, none⟩ = false := Blk.frozen RAb15 1
      have RAn15 := Blk.lt RAb15
      have Sb15 := Blk.next Sb14 hb15'
      have Sc150 : World.cell? w15 ⟨ws.heap.size, 0, none⟩ = some (.int .u64 0) := Blk.get Sb15 0 rfl
      have Sf150 : World.frozen? w15 ⟨ws.heap.size, 0, none⟩ = false := Blk.frozen Sb15 0
      have Sc151 : World.cell? w15 ⟨ws.heap.size, 1, none⟩ = some (.int .u64 0) := Blk.get Sb15 1 rfl
      have Sf151 : World.frozen? w15 ⟨ws.heap.size, 1, none⟩ = false := Blk.frozen Sb15 1
      have Sn15 := Blk.lt Sb15
      refine hK.out _ _ (KP.out _ hb15) (fun hH15 => ?_)
      clear hK K hH
      have hH := hH15
      clear hH15
      try simp only [Act.put, List.getElem_toArray, List.getElem_cons_succ, List.getElem_cons_zero, List.setIfInBounds_toArray, List.set_cons_zero, List.set_cons_succ]
      refine wpAnyH_ready (rs := [19]) (by kernel_rfl) (by simp) ?_
      refine (AllReadyH.cons rfl (fun K hK => ?_) AllReadyH.nil)
      go_simp
      with_reducible refine (P1.out _).mono ?_
      rintro e w16 ⟨rfl, hb16'⟩
      have hb16 : Below (ws.heap.size) ws w16 := below_next hH.2 hb16'
      try go_wp2_with fail
      have RSb16 := Blk.next RSb15 hb16'
      have RSc160 : World.cell? w16 ⟨w.heap.size + 1, 0, none⟩ = some (.int .u64 0) := Blk.get RSb16 0 rfl
      have RSf160 : World.frozen? w16 ⟨w.heap.size + 1, 0, none⟩ = false := Blk.frozen RSb16 0
      have RSc161 : World.cell? w16 ⟨w.heap.size + 1, 1, none⟩ = some (.int .u64 0) := Blk.get RSb16 1 rfl
      have RSf161 : World.frozen? w16 ⟨w.heap.size + 1, 1, none⟩ = false := Blk.frozen RSb16 1
      have RSn16 := Blk.lt RSb16
      have RAb16 := Blk.next RAb15 hb16'
      have RAc160 : World.cell? w16 ⟨w.heap.size, 0, none⟩ = some (.int .u64 kx) := Blk.get RAb16 0 rfl
      have RAf160 : World.frozen? w16 ⟨w.heap.size, 0, none⟩ = false := Blk.frozen RAb16 0
      have RAc161 : World.cell? w16 ⟨w.heap.size, 1, none⟩ = some (.int .u64 ky) := Blk.get RAb16 1 rfl
      have RAf161 : World.frozen? w16 ⟨w.heap.size, 1, none⟩ = false := Blk.frozen RAb16 1
      have RAn16 := Blk.lt RAb16
      have Sb16 := Blk.next Sb15 hb16'
      have Sc160 : World.cell? w16 ⟨ws.heap.size, 0, none⟩ = some (.int .u64 0) := Blk.get Sb16 0 rfl
      have Sf160 : World.frozen? w16 ⟨ws.heap.size, 0, none⟩ = false := Blk.frozen Sb16 0
      have Sc161 : World.cell? w16 ⟨ws.heap.size, 1, none⟩ = some (.int .u64 0) := Blk.get Sb16 1 rfl
      have Sf161 : World.frozen? w16 ⟨ws.heap.size, 1, none⟩ = false := Blk.frozen Sb16 1
      have Sn16 := Blk.lt Sb16
      refine hK.out _ _ (KP.out _ hb16) (fun hH16 => ?_)
      clear hK K hH
      have hH := hH16
      clear hH16
      try simp only [Act.put, List.getElem_toArray, List.getElem_cons_succ, List.getElem_cons_zero, List.setIfInBounds_toArray, List.set_cons_zero, List.set_cons_succ]
      first | (refine wpAnyH_take (i := 20) (v := undef) rfl ?_ ?_ ?_ (fun _ _ _ h => h) ?_ ?_ ?_; kernel_rfl; kernel_rfl; kernel_rfl; exact Or.inr ⟨by rfl, rfl⟩; exact hH) | (refine wpAnyH_take (i := 20) (v := ?_) rfl ?_ ?_ ?_ (fun _ _ _ h => h) ?_ ?_ ?_; rotate_left; kernel_rfl; kernel_rfl; kernel_rfl; (focus (refine Or.inl ⟨by rfl, ?_⟩; intro w' hSw; (try dsimp only at hSw); go_simp)); exact hH) | (refine wpAnyH_take (i := 20) (v := ?_) rfl ?_ ?_ ?_ (fun _ _ _ h => h) ?_ ?_ ?_; rotate_left; kernel_rfl; kernel_rfl; kernel_rfl; (focus (refine Or.inl ⟨by rfl, ?_⟩; intro w' hSw; (try dsimp only at hSw); go_simp; with_reducible rfl)); exact hH)
      try simp only [Act.put, List.getElem_toArray, List.getElem_cons_succ, List.getElem_cons_zero, List.setIfInBounds_toArray, List.set_cons_zero, List.set_cons_succ]
      first | (refine wpAnyH_take (i := 21) (v := undef) rfl ?_ ?_ ?_ (fun _ _ _ h => h) ?_ ?_ ?_; kernel_rfl; kernel_rfl; kernel_rfl; exact Or.inr ⟨by rfl, rfl⟩; exact hH) | (refine wpAnyH_take (i := 21) (v := ?_) rfl ?_ ?_ ?_ (fun _ _ _ h => h) ?_ ?_ ?_; rotate_left; kernel_rfl; kernel_rfl; kernel_rfl; (focus (refine Or.inl ⟨by rfl, ?_⟩; intro w' hSw; (try dsimp only at hSw); go_simp)); exact hH) | (refine wpAnyH_take (i := 21) (v := ?_) rfl ?_ ?_ ?_ (fun _ _ _ h => h) ?_ ?_ ?_; rotate_left; kernel_rfl; kernel_rfl; kernel_rfl; (focus (refine Or.inl ⟨by rfl, ?_⟩; intro w' hSw; (try dsimp only at hSw); go_simp; with_reducible rfl)); exact hH)
      try simp only [Act.put, List.getElem_toArray, List.getElem_cons_succ, List.getElem_cons_zero, List.setIfInBounds_toArray, List.set_cons_zero, List.set_cons_succ]
      first | (refine wpAnyH_take (i := 22) (v := undef) rfl ?_ ?_ ?_ (fun _ _ _ h => h) ?_ ?_ ?_; kernel_rfl; kernel_rfl; kernel_rfl; exact Or.inr ⟨by rfl, rfl⟩; exact hH) | (refine wpAnyH_take (i := 22) (v := ?_) rfl ?_ ?_ ?_ (fun _ _ _ h => h) ?_ ?_ ?_; rotate_left; kernel_rfl; kernel_rfl; kernel_rfl; (focus (refine Or.inl ⟨by rfl, ?_⟩; intro w' hSw; (try dsimp only at hSw); go_simp)); exact hH) | (refine wpAnyH_take (i := 22) (v := ?_) rfl ?_ ?_ ?_ (fun _ _ _ h => h) ?_ ?_ ?_; rotate_left; kernel_rfl; kernel_rfl; kernel_rfl; (focus (refine Or.inl ⟨by rfl, ?_⟩; intro w' hSw; (try dsimp only at hSw); go_simp; with_reducible rfl)); exact hH)
      try simp only [Act.put, List.getElem_toArray, List.getElem_cons_succ, List.getElem_cons_zero, List.setIfInBounds_toArray, List.set_cons_zero, List.set_cons_succ]
      refine wpAnyH_ready (rs := [24]) (by kernel_rfl) (by simp) ?_
      refine (AllReadyH.cons rfl (fun K hK => ?_) AllReadyH.nil)
      go_simp
      have Sb17 := (Blk.put (Blk.put Sb16 0 (.int .u64 h3)) 1 (.int .u64 l3))
      have hb17 : Below (ws.heap.size) ws _ := (Below.setCell (p := ⟨ws.heap.size, 1, none⟩) (Below.setCell (p := ⟨ws.heap.size, 0, none⟩) hb16 (by show _ ≤ ws.heap.size; first | exact Nat.le_refl _ | exact hH.2.size | (simp only [World.size_alloc, World.size_drew] at *; omega)) (.int .u64 h3)) (by show _ ≤ ws.heap.size; first | exact Nat.le_refl _ | exact hH.2.size | (simp only [World.size_alloc, World.size_drew] at *; omega)) (.int .u64 l3))
      have RSb17 := (Blk.far (Blk.far RSb16 (p := ⟨ws.heap.size, 0, none⟩) (show w.heap.size + 1 ≠ ws.heap.size by first | assumption | exact Ne.symm (by assumption) | omega) (.int .u64 h3)) (p := ⟨ws.heap.size, 1, none⟩) (show w.heap.size + 1 ≠ ws.heap.size by first | assumption | exact Ne.symm (by assumption) | omega) (.int .u64 l3))
      have RAb17 := (Blk.far (Blk.far RAb16 (p := ⟨ws.heap.size, 0, none⟩) (show w.heap.size ≠ ws.heap.size by first | assumption | exact Ne.symm (by assumption) | omega) (.int .u64 h3)) (p := ⟨ws.heap.size, 1, none⟩) (show w.heap.size ≠ ws.heap.size by first | assumption | exact Ne.symm (by assumption) | omega) (.int .u64 l3))
      refine hK.out _ _ (KP.out _ hb17) (fun hH17 => ?_)
      clear hK K hH
      have hH := hH17
      clear hH17
      try simp only [Act.put, List.getElem_toArray, List.getElem_cons_succ, List.getElem_cons_zero, List.setIfInBounds_toArray, List.set_cons_zero, List.set_cons_succ]
      first | (refine wpAnyH_take (i := 25) (v := undef) rfl ?_ ?_ ?_ (fun _ _ _ h => h) ?_ ?_ ?_; kernel_rfl; kernel_rfl; kernel_rfl; exact Or.inr ⟨by rfl, rfl⟩; exact hH) | (refine wpAnyH_take (i := 25) (v := ?_) rfl ?_ ?_ ?_ (fun _ _ _ h => h) ?_ ?_ ?_; rotate_left; kernel_rfl; kernel_rfl; kernel_rfl; (focus (refine Or.inl ⟨by rfl, ?_⟩; intro w' hSw; (try dsimp only at hSw); go_simp)); exact hH) | (refine wpAnyH_take (i := 25) (v := ?_) rfl ?_ ?_ ?_ (fun _ _ _ h => h) ?_ ?_ ?_; rotate_left; kernel_rfl; kernel_rfl; kernel_rfl; (focus (refine Or.inl ⟨by rfl, ?_⟩; intro w' hSw; (try dsimp only at hSw); go_simp; with_reducible rfl)); exact hH)
      try simp only [Act.put, List.getElem_toArray, List.getElem_cons_succ, List.getElem_cons_zero, List.setIfInBounds_toArray, List.set_cons_zero, List.set_cons_succ]
      refine wpAnyH_done (by kernel_rfl) ?_ _
      refine NoPanic.normal ?_
      go_wp2_with fail
      go_meet
      exact ⟨_, rfl, Sb17, RSb17, RAb17, (by have a := HZ.out; have b := QGS; omega), QGS, hb17⟩
  case rest =>
    obtain ⟨q', rfl, Sb, Rb, Ab, hne, hqb, B0⟩ := hcut
    have B1 : Below w.heap.size w wc := HB.out.trans (B0.mono (by have := HZ.out; omega))
    clear B0
    have Sb : Blk wc (q') 137 #[.int .u64 h3, .int .u64 l3] := Sb
    have Sc0 : World.cell? wc ⟨q', 0, none⟩ = some (.int .u64 h3) := Sb.get 0 rfl
    have Sf0 := Blk.frozen Sb 0
    have Sc1 : World.cell? wc ⟨q', 1, none⟩ = some (.int .u64 l3) := Sb.get 1 rfl
    have Sf1 := Blk.frozen Sb 1
    have Sn := Blk.lt Sb
    have Tb : Blk wc (w.heap.size + 1) 137 #[.int .u64 0, .int .u64 0] := Rb
    have Tc0 : World.cell? wc ⟨w.heap.size + 1, 0, none⟩ = some (.int .u64 0) := Tb.get 0 rfl
    have Tf0 := Blk.frozen Tb 0
    have Tc1 : World.cell? wc ⟨w.heap.size + 1, 1, none⟩ = some (.int .u64 0) := Tb.get 1 rfl
    have Tf1 := Blk.frozen Tb 1
    have Tn := Blk.lt Tb
    have Ub : Blk wc (w.heap.size) 192 #[.int .u64 kx, .int .u64 ky] := Ab
    have Uc0 : World.cell? wc ⟨w.heap.size, 0, none⟩ = some (.int .u64 kx) := Ub.get 0 rfl
    have Uf0 := Blk.frozen Ub 0
    have Uc1 : World.cell? wc ⟨w.heap.size, 1, none⟩ = some (.int .u64 ky) := Ub.get 1 rfl
    have Uf1 := Blk.frozen Ub 1
    have Un := Blk.lt Ub
    clear Sb Rb Ab
    have hqw : w.heap.size ≤ q' := by have := HZ.out; omega
    go_wp2_with fail
    with_reducible refine (P2.out _).mono ?_
    rintro e w2 ⟨rfl, hb2⟩
    have Sm : Blk w2 (q') 137 #[.int .u64 h3, .int .u64 l3] := Blk.next (by repeat (first | (with_reducible exact Sb) | (refine Blk.new_at ?_; simp only [World.size_alloc]; done) | (with_reducible refine Blk.alloc ?_ _) | (with_reducible refine Blk.drewN ?_ _))) hb2
    clear Sn Sb Sc0 Sf0 Sc1 Sf1
    have Sb := Sm
    clear Sm
    have Sc0 : World.cell? w2 ⟨q', 0, none⟩ = some (.int .u64 h3) := Sb.get 0 rfl
    have Sf0 := Blk.frozen Sb 0
    have Sc1 : World.cell? w2 ⟨q', 1, none⟩ = some (.int .u64 l3) := Sb.get 1 rfl
    have Sf1 := Blk.frozen Sb 1
    have Sn := Blk.lt Sb
    have Tm : Blk w2 (w.heap.size + 1) 137 #[.int .u64 0, .int .u64 0] := Blk.next (by repeat (first | (with_reducible exact Tb) | (refine Blk.new_at ?_; simp only [World.size_alloc]; done) | (with_reducible refine Blk.alloc ?_ _) | (with_reducible refine Blk.drewN ?_ _))) hb2
    clear Tn Tb Tc0 Tf0 Tc1 Tf1
    have Tb := Tm
    clear Tm
    have Tc0 : World.cell? w2 ⟨w.heap.size + 1, 0, none⟩ = some (.int .u64 0) := Tb.get 0 rfl
    have Tf0 := Blk.frozen Tb 0
    have Tc1 : World.cell? w2 ⟨w.heap.size + 1, 1, none⟩ = some (.int .u64 0) := Tb.get 1 rfl
    have Tf1 := Blk.frozen Tb 1
    have Tn := Blk.lt Tb
    have Um : Blk w2 (w.heap.size) 192 #[.int .u64 kx, .int .u64 ky] := Blk.next (by repeat (first | (with_reducible exact Ub) | (refine Blk.new_at ?_; simp only [World.size_alloc]; done) | (with_reducible refine Blk.alloc ?_ _) | (with_reducible refine Blk.drewN ?_ _))) hb2
    clear Un Ub Uc0 Uf0 Uc1 Uf1
    have Ub := Um
    clear Um
    have Uc0 : World.cell? w2 ⟨w.heap.size, 0, none⟩ = some (.int .u64 kx) := Ub.get 0 rfl
    have Uf0 := Blk.frozen Ub 0
    have Uc1 : World.cell? w2 ⟨w.heap.size, 1, none⟩ = some (.int .u64 ky) := Ub.get 1 rfl
    have Uf1 := Blk.frozen Ub 1
    have Un := Blk.lt Ub
    have B2 : Below w.heap.size w w2 := by first | with_reducible exact below_next B1 hb2 | exact below_step B1 (by go_grown) hb2
    clear hb2 B1
    go_upto_region 4 with (fail)
    obtain ⟨P0, P1, Sb3⟩ := Blk.puts Sb (.int .u64 h4) (.int .u64 l4)
    have Tb3 := Blk.far (Blk.far Tb (p := ⟨q', 0, none⟩) (Ne.symm hne) (.int .u64 h4)) (p := ⟨q', 1, none⟩) (Ne.symm hne) (.int .u64 l4)
    have B3 := (B2.setCell (p := ⟨q', 0, none⟩) hqw (.int .u64 h4)).setCell (p := ⟨q', 1, none⟩) hqw (.int .u64 l4)
    clear Sc0 Sc1 Sf0 Sf1 Sn Sb Tc0 Tc1 Tf0 Tf1 Tn Tb Uc0 Uc1 Uf0 Uf1 Un Ub B2 P0 P1
    generalize (w2.setCell ⟨q', 0, none⟩ (.int .u64 h4)).setCell ⟨q', 1, none⟩ (.int .u64 l4) = w3 at Sb3 Tb3 B3 ⊢
    have Sc0 : World.cell? w3 ⟨q', 0, none⟩ = some (.int .u64 h4) := Sb3.get 0 rfl
    have Sc1 : World.cell? w3 ⟨q', 1, none⟩ = some (.int .u64 l4) := Sb3.get 1 rfl
    have Rc0 : World.cell? w3 ⟨w.heap.size + 1, 0, none⟩ = some (.int .u64 0) := Tb3.get 0 rfl
    have Rc1 : World.cell? w3 ⟨w.heap.size + 1, 1, none⟩ = some (.int .u64 0) := Tb3.get 1 rfl
    have Rf0 := Tb3.frozen 0
    have Rf1 := Tb3.frozen 1
    obtain ⟨Q0, Q1, Q2⟩ := Blk.puts Tb3 (.int .u64 h4) (.int .u64 l4)
    have HB2 := Lib.hid B3
    clear Sb3 Tb3 B3
    go_wp2_with fail
    refine bodyPost_ret (by simp [results, Tryz.results141, go_sem, Q0, Q1]; try rfl) rfl ?_
    exact ⟨rfl, (HB2.out.setCell (p := ⟨w.heap.size + 1, 0, none⟩) (by show _ ≤ _ + 1; omega) _).setCell (p := ⟨w.heap.size + 1, 1, none⟩) (by show _ ≤ _ + 1; omega) _⟩

end Go.Proofs.YtjhffbhjiflfeaaGreat
