/-
  The document's run of a bent curve: the least lines of both slopes.
-/
import Derived.Test.YtdkeoanlcninkaaBentRefC
namespace Go.Proofs.Ytdkeoanlcninkaa
set_option linter.unusedVariables false
set_option linter.unusedSimpArgs false
set_option maxRecDepth 100000
open Go.RowKit Go.Shelf

/-- The least of a bound and the first so many. -/
def minB (b : Int) (G : Nat → Int) : Nat → Int
  | 0 => b
  | k + 1 => min (minB b G k) (G k)
theorem minB_G {b : Int} {G : Nat → Int} (h : G 0 ≤ b) (k : Nat) : minB b G (k + 1) = minG G k := by
  induction k with
  | zero => exact Int.min_eq_right h
  | succ k ih => show min (minB b G (k + 1)) (G (k + 1)) = min (minG G k) (G (k + 1)); rw [ih]
theorem refplus_v (a b h1 l1 h2 l2 h3 l3 : Int) (w : World) (ha : 0 ≤ a) (hb : 0 ≤ b) (hs : a + b < 340282366920938463463374607431768211456) (e1 : hiW a = h1) (e2 : loW a = l1) (e3 : hiW b = h2) (e4 : loW b = l2) (e5 : hiW (a + b) = h3) (e6 : loW (a + b) = l3) :
    Calls Try.prog 48 #[.agg #[.int .u64 h1, .int .u64 l1], .agg #[.int .u64 h2, .int .u64 l2]] w fun e w' => e = .returned (.tuple #[.agg #[.int .u64 h3, .int .u64 l3], .int .i64 0]) ∧ Below w.heap.size w w' := by
  subst e1 e2 e5 e6
  exact refplus_w a b h2 l2 w ha hb hs e3 e4
theorem refmul_v (a b h l : Int) (w : World) (ha : Word a) (hb : Word b) (e1 : hiW (a * b) = h) (e2 : loW (a * b) = l) : Calls Try.prog 47 #[.int .u64 a, .int .u64 b] w fun e w' => e = .returned (.agg #[.int .u64 h, .int .u64 l]) ∧ Below w.heap.size w w' := by
  subst e1 e2; exact refmul_w a b w ha hb
theorem refcmp_v (a b h1 l1 h2 l2 k : Int) (w : World) (e1 : hiW a = h1) (e2 : loW a = l1) (e3 : hiW b = h2) (e4 : loW b = l2) (ek : cmpN a b = k) : Calls Try.prog 49 #[.agg #[.int .u64 h1, .int .u64 l1], .agg #[.int .u64 h2, .int .u64 l2]] w fun e w' => e = .returned (.int .i64 k) ∧ Below w.heap.size w w' := by
  subst e1 e2 e3 e4; exact refcmp_w a b k w ek
/-- A lesser one is kept. -/
theorem cmp_keep (a b : Int) : ∃ c, cmpN a b = c ∧ ((c < 0 ∧ min b a = a) ∨ (0 ≤ c ∧ min b a = b)) := by
  unfold cmpN
  by_cases h : a < b
  · exact ⟨-1, by rw [if_pos h], .inl ⟨by omega, by omega⟩⟩
  · rw [if_neg h]
    by_cases h2 : b < a
    · exact ⟨1, by rw [if_pos h2], .inr ⟨by omega, by omega⟩⟩
    · exact ⟨0, by rw [if_neg h2], .inr ⟨by omega, by omega⟩⟩

theorem rlines_none (q : Nat) (F L R : Int) (X Y : Nat → Int) (w : World) (h : IsCop w q F L R 0 X Y) :
    Calls Try.prog 39 #[.pointer (some ⟨q, 0, none⟩)] w fun e w' => e = .returned (.tuple #[.int .u64 0, .int .u64 0]) ∧ Below w.heap.size w w' := by
  obtain ⟨A, cA, D, cD, Qb, -, -, -, -⟩ := h.open
  have Qc3 : World.cell? w ⟨q, 3, none⟩ = some (.slice A 0 cA) := Qb.get 3 rfl
  clear Qb h
  go_enter Try.func39, Try.ntmps39
  go_wp2_with fail
  go_ret2
  exact ⟨rfl, Below.refl _ _⟩

set_option maxHeartbeats 8000000 in
theorem rlines_any (q : Nat) (F L R : Int) (m : Nat) (X Y : Nat → Int) (v1 v2 : Int) (w : World) (h : IsCop w q F L R (m + 1) X Y) (my : May F L R) (hb : R < F) (hm : m + 1 ≤ 1000000) (hx : ∀ i, i ≤ m → 0 ≤ X i ∧ X i ≤ X m) (hx1 : X m ≤ 9223372036854775808) (hy : ∀ i, i ≤ m → 0 ≤ Y i ∧ Y i ≤ 4611686018427387904)
    (hV1 : stopN (minG (fun i => Y i + F * (X m - X i)) m) = v1) (hV2 : stopN (minG (fun i => Y i + R * (X m - X i) + (F - R) * L) m) = v2) :
    Calls Try.prog 39 #[.pointer (some ⟨q, 0, none⟩)] w fun e w' => e = .returned (.tuple #[.int .u64 v1, .int .u64 v2]) ∧ Below w.heap.size w w' := by
  have f0 := my.f0
  have f1 := my.f1
  have r0 := my.r0
  have r1 := my.r1
  have l0 := my.l0
  have l1 := my.l1
  have O0 : 0 ≤ (F - R) * L := Int.mul_nonneg (by omega) l0
  have O1 : (F - R) * L ≤ 1048576 * L := Int.mul_le_mul_of_nonneg_right (by omega) l0
  have LA := Lib.hid (fun w hI => rlast_any q F L R (m + 1) X Y (X m) w hI hm rfl)
  obtain ⟨ho, eho⟩ : ∃ z, hiW ((F - R) * L) = z := ⟨_, rfl⟩
  obtain ⟨lo, elo⟩ : ∃ z, loW ((F - R) * L) = z := ⟨_, rfl⟩
  have MO := Lib.hid (fun w => refmul_v (F - R) L ho lo w ⟨by omega, by omega⟩ ⟨l0, by omega⟩ eho elo)
  have each : ∀ i, i ≤ m → (0 ≤ F * (X m - X i) ∧ F * (X m - X i) ≤ 9671406556917033397649408) ∧ (0 ≤ R * (X m - X i) ∧ R * (X m - X i) ≤ 9671406556917033397649408) := by
    intro i hi
    have := hx i hi
    have d : 0 ≤ X m - X i := by omega
    have a : F * (X m - X i) ≤ 1048576 * (X m - X i) := Int.mul_le_mul_of_nonneg_right f1 d
    have b : R * (X m - X i) ≤ 1048576 * (X m - X i) := Int.mul_le_mul_of_nonneg_right r1 d
    exact ⟨⟨Int.mul_nonneg f0 d, by omega⟩, Int.mul_nonneg r0 d, by omega⟩
  have hG : ∃ G : Nat → Int, ∀ i, Y i + F * (X m - X i) = G i := ⟨_, fun _ => rfl⟩
  have hK : ∃ G : Nat → Int, ∀ i, Y i + R * (X m - X i) + (F - R) * L = G i := ⟨_, fun _ => rfl⟩
  obtain ⟨G, hG⟩ := hG
  obtain ⟨K, hK⟩ := hK
  have eG : (fun i => Y i + F * (X m - X i)) = G := funext hG
  have eK : (fun i => Y i + R * (X m - X i) + (F - R) * L) = K := funext hK
  rw [eG] at hV1
  rw [eK] at hV2
  have g0 : G 0 ≤ 170141183460469231731687303715884105728 := by have := each 0 (by omega); have := hy 0 (by omega); rw [← hG]; omega
  have k0 : K 0 ≤ 170141183460469231731687303715884105728 := by have := each 0 (by omega); have := hy 0 (by omega); rw [← hK]; omega
  rw [← minB_G g0] at hV1
  rw [← minB_G k0] at hV2
  have GB := Lib.hid (fun i (hi : i ≤ m) => show 0 ≤ G i ∧ 0 ≤ K i from by have := each i hi; have := hy i hi; rw [← hG, ← hK]; omega)
  have MB : ∀ (H : Nat → Int), (∀ i, i ≤ m → 0 ≤ H i) → ∀ k, k ≤ m + 1 → 0 ≤ minB 170141183460469231731687303715884105728 H k := by
    intro H hH k hk
    induction k with
    | zero => show (0 : Int) ≤ 170141183460469231731687303715884105728; decide
    | succ k ih =>
      have a := ih (by omega)
      have b := hH k (by omega)
      show 0 ≤ min _ _
      omega
  have S1 := Lib.hid (fun w => refstop_w _ v1 w (MB G (fun i hi => (GB.out i hi).1) (m + 1) (Nat.le_refl _)) hV1)
  have S2 := Lib.hid (fun w => refstop_w _ v2 w (MB K (fun i hi => (GB.out i hi).2) (m + 1) (Nat.le_refl _)) hV2)
  have HI := Lib.hid h
  obtain ⟨A, cA, D, cD, Qb, -, -, hA, hD⟩ := h.open
  obtain ⟨g, rfl, hg, hcX⟩ := hA (by omega)
  obtain ⟨g', rfl, hg', hcY⟩ := hD (by omega)
  have HQ := Lib.hid Qb
  have hqn := Blk.lt Qb
  have HXC := Lib.hid hcX
  have HYC := Lib.hid hcY
  have e0 : ((m : Int) + 1 == 0) = false := beq_eq_false_iff_ne.2 (by omega)
  have m1 : (m : Int) + 1 ≤ 1000000 := by omega
  have Qc3 : World.cell? w ⟨q, 3, none⟩ = some (.slice (some ⟨g, 0, none⟩) (m + 1) cA) := Qb.get 3 rfl
  have hwo : IntKind.u64.wrap (F - R) = F - R := by rw [IntKind.wrap_u64]; omega
  have HG := Lib.hid hG
  have HK := Lib.hid hK
  have HE := Lib.hid each
  have HX := Lib.hid hx
  have HY := Lib.hid hy
  have EO := Lib.hid (And.intro eho elo)
  clear h Qb hA hD hcX hcY hV1 hV2 GB MB eG eK hG hK each g0 k0 hx hy eho elo O1
  go_enter Try.func39, Try.ntmps39
  go_upto_region 3 with (fail)
  go_cut [4, 5] (fun av bv wc => av = .pointer (some ⟨w.heap.size, 0, none⟩) ∧ bv = .pointer (some ⟨w.heap.size + 1, 0, none⟩) ∧ Blk wc w.heap.size 75 #[.int .u64 9223372036854775808, .int .u64 0] ∧ Blk wc (w.heap.size + 1) 75 #[.int .u64 9223372036854775808, .int .u64 0] ∧ Below w.heap.size w wc)
  case first =>
    go_wp2_with fail
    go_meet
    exact ⟨rfl, rfl, (Blk.new w _ _).alloc _, Blk.new_at (by simp), by go_grown⟩
  case rest =>
    obtain ⟨rfl, rfl, Fb, Rb, B0⟩ := hcut
    obtain ⟨wa, rfl⟩ : ∃ x : World, x = wc := ⟨_, rfl⟩
    have QA := Blk.below HQ.out B0 hqn
    have HF := Lib.hid Fb
    have HR := Lib.hid Rb
    have HB := Lib.hid B0
    have KP : Hid (∀ w', Below (wa.heap.size) wa w' → (w'.cell? ⟨q, 0, none⟩ = some (.int .u64 F) ∧ w'.cell? ⟨q, 1, none⟩ = some (.int .u64 L) ∧ w'.cell? ⟨q, 2, none⟩ = some (.int .u64 R)) ∧ Below (wa.heap.size) wa w') := fun w' hb => ⟨⟨((Blk.next QA hb).get 0 rfl), ((Blk.next QA hb).get 1 rfl), ((Blk.next QA hb).get 2 rfl)⟩, hb⟩
    clear Fb Rb B0 QA Qc3
    go_upto_region 4 with (fail)
    go_cut [6] (fun ov wc => ∃ qo, ov = .pointer (some ⟨qo, 0, none⟩) ∧ Blk wc qo 75 #[.int .u64 ho, .int .u64 lo] ∧ wa.heap.size ≤ qo ∧ Below wa.heap.size wa wc)
    case first =>
      refine wp_region_noPanic ?_
      refine wp_region_held_drew (S := fun w' => (w'.cell? ⟨q, 0, none⟩ = some (.int .u64 F) ∧ w'.cell? ⟨q, 1, none⟩ = some (.int .u64 L) ∧ w'.cell? ⟨q, 2, none⟩ = some (.int .u64 R)) ∧ Below (wa.heap.size) wa w') (by kernel_rfl) (KP.out _ (below_of_drew ((Below.refl wa.heap.size wa)))) (fun hH => ?_)
      have hbR := below_of_drew ((Below.refl wa.heap.size wa))
      first | (refine wpAnyH_take (i := 0) (v := undef) rfl ?_ ?_ ?_ (fun _ _ _ h => h) ?_ ?_ ?_; kernel_rfl; kernel_rfl; kernel_rfl; exact Or.inr ⟨by rfl, rfl⟩; exact hH) | (refine wpAnyH_take (i := 0) (v := ?_) rfl ?_ ?_ ?_ (fun _ _ _ h => h) ?_ ?_ ?_; rotate_left; kernel_rfl; kernel_rfl; kernel_rfl; (focus (refine Or.inl ⟨by rfl, ?_⟩; intro w' hSw; (try dsimp only at hSw); go_simp)); exact hH) | (refine wpAnyH_take (i := 0) (v := ?_) rfl ?_ ?_ ?_ (fun _ _ _ h => h) ?_ ?_ ?_; rotate_left; kernel_rfl; kernel_rfl; kernel_rfl; (focus (refine Or.inl ⟨by rfl, ?_⟩; intro w' hSw; (try dsimp only at hSw); go_simp; with_reducible rfl)); exact hH)
      try simp only [Act.put, List.getElem_toArray, List.getElem_cons_succ, List.getElem_cons_zero, List.setIfInBounds_toArray, List.set_cons_zero, List.set_cons_succ]
      first | (refine wpAnyH_take (i := 1) (v := undef) rfl ?_ ?_ ?_ (fun _ _ _ h => h) ?_ ?_ ?_; kernel_rfl; kernel_rfl; kernel_rfl; exact Or.inr ⟨by rfl, rfl⟩; exact hH) | (refine wpAnyH_take (i := 1) (v := ?_) rfl ?_ ?_ ?_ (fun _ _ _ h => h) ?_ ?_ ?_; rotate_left; kernel_rfl; kernel_rfl; kernel_rfl; (focus (refine Or.inl ⟨by rfl, ?_⟩; intro w' hSw; (try dsimp only at hSw); go_simp)); exact hH) | (refine wpAnyH_take (i := 1) (v := ?_) rfl ?_ ?_ ?_ (fun _ _ _ h => h) ?_ ?_ ?_; rotate_left; kernel_rfl; kernel_rfl; kernel_rfl; (focus (refine Or.inl ⟨by rfl, ?_⟩; intro w' hSw; (try dsimp only at hSw); go_simp; with_reducible rfl)); exact hH)
      try simp only [Act.put, List.getElem_toArray, List.getElem_cons_succ, List.getElem_cons_zero, List.setIfInBounds_toArray, List.set_cons_zero, List.set_cons_succ]
      first | (refine wpAnyH_take (i := 2) (v := undef) rfl ?_ ?_ ?_ (fun _ _ _ h => h) ?_ ?_ ?_; kernel_rfl; kernel_rfl; kernel_rfl; exact Or.inr ⟨by rfl, rfl⟩; exact hH) | (refine wpAnyH_take (i := 2) (v := ?_) rfl ?_ ?_ ?_ (fun _ _ _ h => h) ?_ ?_ ?_; rotate_left; kernel_rfl; kernel_rfl; kernel_rfl; (focus (refine Or.inl ⟨by rfl, ?_⟩; intro w' hSw; (try dsimp only at hSw); go_simp)); exact hH) | (refine wpAnyH_take (i := 2) (v := ?_) rfl ?_ ?_ ?_ (fun _ _ _ h => h) ?_ ?_ ?_; rotate_left; kernel_rfl; kernel_rfl; kernel_rfl; (focus (refine Or.inl ⟨by rfl, ?_⟩; intro w' hSw; (try dsimp only at hSw); go_simp; with_reducible rfl)); exact hH)
      try simp only [Act.put, List.getElem_toArray, List.getElem_cons_succ, List.getElem_cons_zero, List.setIfInBounds_toArray, List.set_cons_zero, List.set_cons_succ]
      first | (refine wpAnyH_take (i := 3) (v := undef) rfl ?_ ?_ ?_ (fun _ _ _ h => h) ?_ ?_ ?_; kernel_rfl; kernel_rfl; kernel_rfl; exact Or.inr ⟨by rfl, rfl⟩; exact hH) | (refine wpAnyH_take (i := 3) (v := ?_) rfl ?_ ?_ ?_ (fun _ _ _ h => h) ?_ ?_ ?_; rotate_left; kernel_rfl; kernel_rfl; kernel_rfl; (focus (refine Or.inl ⟨by rfl, ?_⟩; intro w' hSw; (try dsimp only at hSw); go_simp)); exact hH) | (refine wpAnyH_take (i := 3) (v := ?_) rfl ?_ ?_ ?_ (fun _ _ _ h => h) ?_ ?_ ?_; rotate_left; kernel_rfl; kernel_rfl; kernel_rfl; (focus (refine Or.inl ⟨by rfl, ?_⟩; intro w' hSw; (try dsimp only at hSw); go_simp; with_reducible rfl)); exact hH)
      try simp only [Act.put, List.getElem_toArray, List.getElem_cons_succ, List.getElem_cons_zero, List.setIfInBounds_toArray, List.set_cons_zero, List.set_cons_succ]
      first | (refine wpAnyH_take (i := 4) (v := undef) rfl ?_ ?_ ?_ (fun _ _ _ h => h) ?_ ?_ ?_; kernel_rfl; kernel_rfl; kernel_rfl; exact Or.inr ⟨by rfl, rfl⟩; exact hH) | (refine wpAnyH_take (i := 4) (v := ?_) rfl ?_ ?_ ?_ (fun _ _ _ h => h) ?_ ?_ ?_; rotate_left; kernel_rfl; kernel_rfl; kernel_rfl; (focus (refine Or.inl ⟨by rfl, ?_⟩; intro w' hSw; (try dsimp only at hSw); go_simp)); exact hH) | (refine wpAnyH_take (i := 4) (v := ?_) rfl ?_ ?_ ?_ (fun _ _ _ h => h) ?_ ?_ ?_; rotate_left; kernel_rfl; kernel_rfl; kernel_rfl; (focus (refine Or.inl ⟨by rfl, ?_⟩; intro w' hSw; (try dsimp only at hSw); go_simp; with_reducible rfl)); exact hH)
      try simp only [Act.put, List.getElem_toArray, List.getElem_cons_succ, List.getElem_cons_zero, List.setIfInBounds_toArray, List.set_cons_zero, List.set_cons_succ]
      first | (refine wpAnyH_take (i := 5) (v := undef) rfl ?_ ?_ ?_ (fun _ _ _ h => h) ?_ ?_ ?_; kernel_rfl; kernel_rfl; kernel_rfl; exact Or.inr ⟨by rfl, rfl⟩; exact hH) | (refine wpAnyH_take (i := 5) (v := ?_) rfl ?_ ?_ ?_ (fun _ _ _ h => h) ?_ ?_ ?_; rotate_left; kernel_rfl; kernel_rfl; kernel_rfl; (focus (refine Or.inl ⟨by rfl, ?_⟩; intro w' hSw; (try dsimp only at hSw); go_simp)); exact hH) | (refine wpAnyH_take (i := 5) (v := ?_) rfl ?_ ?_ ?_ (fun _ _ _ h => h) ?_ ?_ ?_; rotate_left; kernel_rfl; kernel_rfl; kernel_rfl; (focus (refine Or.inl ⟨by rfl, ?_⟩; intro w' hSw; (try dsimp only at hSw); go_simp; with_reducible rfl)); exact hH)
      try simp only [Act.put, List.getElem_toArray, List.getElem_cons_succ, List.getElem_cons_zero, List.setIfInBounds_toArray, List.set_cons_zero, List.set_cons_succ]
      first | (refine wpAnyH_take (i := 6) (v := undef) rfl ?_ ?_ ?_ (fun _ _ _ h => h) ?_ ?_ ?_; kernel_rfl; kernel_rfl; kernel_rfl; exact Or.inr ⟨by rfl, rfl⟩; exact hH) | (refine wpAnyH_take (i := 6) (v := ?_) rfl ?_ ?_ ?_ (fun _ _ _ h => h) ?_ ?_ ?_; rotate_left; kernel_rfl; kernel_rfl; kernel_rfl; (focus (refine Or.inl ⟨by rfl, ?_⟩; intro w' hSw; (try dsimp only at hSw); go_simp)); exact hH) | (refine wpAnyH_take (i := 6) (v := ?_) rfl ?_ ?_ ?_ (fun _ _ _ h => h) ?_ ?_ ?_; rotate_left; kernel_rfl; kernel_rfl; kernel_rfl; (focus (refine Or.inl ⟨by rfl, ?_⟩; intro w' hSw; (try dsimp only at hSw); go_simp; with_reducible rfl)); exact hH)
      try simp only [Act.put, List.getElem_toArray, List.getElem_cons_succ, List.getElem_cons_zero, List.setIfInBounds_toArray, List.set_cons_zero, List.set_cons_succ]
      first | (refine wpAnyH_take (i := 7) (v := undef) rfl ?_ ?_ ?_ (fun _ _ _ h => h) ?_ ?_ ?_; kernel_rfl; kernel_rfl; kernel_rfl; exact Or.inr ⟨by rfl, rfl⟩; exact hH) | (refine wpAnyH_take (i := 7) (v := ?_) rfl ?_ ?_ ?_ (fun _ _ _ h => h) ?_ ?_ ?_; rotate_left; kernel_rfl; kernel_rfl; kernel_rfl; (focus (refine Or.inl ⟨by rfl, ?_⟩; intro w' hSw; (try dsimp only at hSw); go_simp)); exact hH) | (refine wpAnyH_take (i := 7) (v := ?_) rfl ?_ ?_ ?_ (fun _ _ _ h => h) ?_ ?_ ?_; rotate_left; kernel_rfl; kernel_rfl; kernel_rfl; (focus (refine Or.inl ⟨by rfl, ?_⟩; intro w' hSw; (try dsimp only at hSw); go_simp; with_reducible rfl)); exact hH)
      try simp only [Act.put, List.getElem_toArray, List.getElem_cons_succ, List.getElem_cons_zero, List.setIfInBounds_toArray, List.set_cons_zero, List.set_cons_succ]
      first | (refine wpAnyH_take (i := 8) (v := undef) rfl ?_ ?_ ?_ (fun _ _ _ h => h) ?_ ?_ ?_; kernel_rfl; kernel_rfl; kernel_rfl; exact Or.inr ⟨by rfl, rfl⟩; exact hH) | (refine wpAnyH_take (i := 8) (v := ?_) rfl ?_ ?_ ?_ (fun _ _ _ h => h) ?_ ?_ ?_; rotate_left; kernel_rfl; kernel_rfl; kernel_rfl; (focus (refine Or.inl ⟨by rfl, ?_⟩; intro w' hSw; (try dsimp only at hSw); go_simp)); exact hH) | (refine wpAnyH_take (i := 8) (v := ?_) rfl ?_ ?_ ?_ (fun _ _ _ h => h) ?_ ?_ ?_; rotate_left; kernel_rfl; kernel_rfl; kernel_rfl; (focus (refine Or.inl ⟨by rfl, ?_⟩; intro w' hSw; (try dsimp only at hSw); go_simp; with_reducible rfl)); exact hH)
      try simp only [Act.put, List.getElem_toArray, List.getElem_cons_succ, List.getElem_cons_zero, List.setIfInBounds_toArray, List.set_cons_zero, List.set_cons_succ]
      first | (refine wpAnyH_take (i := 9) (v := undef) rfl ?_ ?_ ?_ (fun _ _ _ h => h) ?_ ?_ ?_; kernel_rfl; kernel_rfl; kernel_rfl; exact Or.inr ⟨by rfl, rfl⟩; exact hH) | (refine wpAnyH_take (i := 9) (v := ?_) rfl ?_ ?_ ?_ (fun _ _ _ h => h) ?_ ?_ ?_; rotate_left; kernel_rfl; kernel_rfl; kernel_rfl; (focus (refine Or.inl ⟨by rfl, ?_⟩; intro w' hSw; (try dsimp only at hSw); go_simp)); exact hH) | (refine wpAnyH_take (i := 9) (v := ?_) rfl ?_ ?_ ?_ (fun _ _ _ h => h) ?_ ?_ ?_; rotate_left; kernel_rfl; kernel_rfl; kernel_rfl; (focus (refine Or.inl ⟨by rfl, ?_⟩; intro w' hSw; (try dsimp only at hSw); go_simp; with_reducible rfl)); exact hH)
      try simp only [Act.put, List.getElem_toArray, List.getElem_cons_succ, List.getElem_cons_zero, List.setIfInBounds_toArray, List.set_cons_zero, List.set_cons_succ]
      first | (refine wpAnyH_take (i := 10) (v := undef) rfl ?_ ?_ ?_ (fun _ _ _ h => h) ?_ ?_ ?_; kernel_rfl; kernel_rfl; kernel_rfl; exact Or.inr ⟨by rfl, rfl⟩; exact hH) | (refine wpAnyH_take (i := 10) (v := ?_) rfl ?_ ?_ ?_ (fun _ _ _ h => h) ?_ ?_ ?_; rotate_left; kernel_rfl; kernel_rfl; kernel_rfl; (focus (refine Or.inl ⟨by rfl, ?_⟩; intro w' hSw; (try dsimp only at hSw); go_simp)); exact hH) | (refine wpAnyH_take (i := 10) (v := ?_) rfl ?_ ?_ ?_ (fun _ _ _ h => h) ?_ ?_ ?_; rotate_left; kernel_rfl; kernel_rfl; kernel_rfl; (focus (refine Or.inl ⟨by rfl, ?_⟩; intro w' hSw; (try dsimp only at hSw); go_simp; with_reducible rfl)); exact hH)
      try simp only [Act.put, List.getElem_toArray, List.getElem_cons_succ, List.getElem_cons_zero, List.setIfInBounds_toArray, List.set_cons_zero, List.set_cons_succ]
      first | (refine wpAnyH_take (i := 11) (v := undef) rfl ?_ ?_ ?_ (fun _ _ _ h => h) ?_ ?_ ?_; kernel_rfl; kernel_rfl; kernel_rfl; exact Or.inr ⟨by rfl, rfl⟩; exact hH) | (refine wpAnyH_take (i := 11) (v := ?_) rfl ?_ ?_ ?_ (fun _ _ _ h => h) ?_ ?_ ?_; rotate_left; kernel_rfl; kernel_rfl; kernel_rfl; (focus (refine Or.inl ⟨by rfl, ?_⟩; intro w' hSw; (try dsimp only at hSw); go_simp)); exact hH) | (refine wpAnyH_take (i := 11) (v := ?_) rfl ?_ ?_ ?_ (fun _ _ _ h => h) ?_ ?_ ?_; rotate_left; kernel_rfl; kernel_rfl; kernel_rfl; (focus (refine Or.inl ⟨by rfl, ?_⟩; intro w' hSw; (try dsimp only at hSw); go_simp; with_reducible rfl)); exact hH)
      try simp only [Act.put, List.getElem_toArray, List.getElem_cons_succ, List.getElem_cons_zero, List.setIfInBounds_toArray, List.set_cons_zero, List.set_cons_succ]
      first | (refine wpAnyH_take (i := 12) (v := undef) rfl ?_ ?_ ?_ (fun _ _ _ h => h) ?_ ?_ ?_; kernel_rfl; kernel_rfl; kernel_rfl; exact Or.inr ⟨by rfl, rfl⟩; exact hH) | (refine wpAnyH_take (i := 12) (v := ?_) rfl ?_ ?_ ?_ (fun _ _ _ h => h) ?_ ?_ ?_; rotate_left; kernel_rfl; kernel_rfl; kernel_rfl; (focus (refine Or.inl ⟨by rfl, ?_⟩; intro w' hSw; (try dsimp only at hSw); go_simp)); exact hH) | (refine wpAnyH_take (i := 12) (v := ?_) rfl ?_ ?_ ?_ (fun _ _ _ h => h) ?_ ?_ ?_; rotate_left; kernel_rfl; kernel_rfl; kernel_rfl; (focus (refine Or.inl ⟨by rfl, ?_⟩; intro w' hSw; (try dsimp only at hSw); go_simp; with_reducible rfl)); exact hH)
      try simp only [Act.put, List.getElem_toArray, List.getElem_cons_succ, List.getElem_cons_zero, List.setIfInBounds_toArray, List.set_cons_zero, List.set_cons_succ]
      first | (refine wpAnyH_take (i := 13) (v := undef) rfl ?_ ?_ ?_ (fun _ _ _ h => h) ?_ ?_ ?_; kernel_rfl; kernel_rfl; kernel_rfl; exact Or.inr ⟨by rfl, rfl⟩; exact hH) | (refine wpAnyH_take (i := 13) (v := ?_) rfl ?_ ?_ ?_ (fun _ _ _ h => h) ?_ ?_ ?_; rotate_left; kernel_rfl; kernel_rfl; kernel_rfl; (focus (refine Or.inl ⟨by rfl, ?_⟩; intro w' hSw; (try dsimp only at hSw); go_simp)); exact hH) | (refine wpAnyH_take (i := 13) (v := ?_) rfl ?_ ?_ ?_ (fun _ _ _ h => h) ?_ ?_ ?_; rotate_left; kernel_rfl; kernel_rfl; kernel_rfl; (focus (refine Or.inl ⟨by rfl, ?_⟩; intro w' hSw; (try dsimp only at hSw); go_simp; with_reducible rfl)); exact hH)
      try simp only [Act.put, List.getElem_toArray, List.getElem_cons_succ, List.getElem_cons_zero, List.setIfInBounds_toArray, List.set_cons_zero, List.set_cons_succ]
      first | (refine wpAnyH_take (i := 14) (v := undef) rfl ?_ ?_ ?_ (fun _ _ _ h => h) ?_ ?_ ?_; kernel_rfl; kernel_rfl; kernel_rfl; exact Or.inr ⟨by rfl, rfl⟩; exact hH) | (refine wpAnyH_take (i := 14) (v := ?_) rfl ?_ ?_ ?_ (fun _ _ _ h => h) ?_ ?_ ?_; rotate_left; kernel_rfl; kernel_rfl; kernel_rfl; (focus (refine Or.inl ⟨by rfl, ?_⟩; intro w' hSw; (try dsimp only at hSw); go_simp)); exact hH) | (refine wpAnyH_take (i := 14) (v := ?_) rfl ?_ ?_ ?_ (fun _ _ _ h => h) ?_ ?_ ?_; rotate_left; kernel_rfl; kernel_rfl; kernel_rfl; (focus (refine Or.inl ⟨by rfl, ?_⟩; intro w' hSw; (try dsimp only at hSw); go_simp; with_reducible rfl)); exact hH)
      try simp only [Act.put, List.getElem_toArray, List.getElem_cons_succ, List.getElem_cons_zero, List.setIfInBounds_toArray, List.set_cons_zero, List.set_cons_succ]
      first | (refine wpAnyH_take (i := 15) (v := undef) rfl ?_ ?_ ?_ (fun _ _ _ h => h) ?_ ?_ ?_; kernel_rfl; kernel_rfl; kernel_rfl; exact Or.inr ⟨by rfl, rfl⟩; exact hH) | (refine wpAnyH_take (i := 15) (v := ?_) rfl ?_ ?_ ?_ (fun _ _ _ h => h) ?_ ?_ ?_; rotate_left; kernel_rfl; kernel_rfl; kernel_rfl; (focus (refine Or.inl ⟨by rfl, ?_⟩; intro w' hSw; (try dsimp only at hSw); go_simp)); exact hH) | (refine wpAnyH_take (i := 15) (v := ?_) rfl ?_ ?_ ?_ (fun _ _ _ h => h) ?_ ?_ ?_; rotate_left; kernel_rfl; kernel_rfl; kernel_rfl; (focus (refine Or.inl ⟨by rfl, ?_⟩; intro w' hSw; (try dsimp only at hSw); go_simp; with_reducible rfl)); exact hH)
      try simp only [Act.put, List.getElem_toArray, List.getElem_cons_succ, List.getElem_cons_zero, List.setIfInBounds_toArray, List.set_cons_zero, List.set_cons_succ]
      refine wpAnyH_ready (rs := [16, 17]) (by kernel_rfl) (by simp) ?_
      refine (AllReadyH.cons rfl (fun K hK => ?_) (AllReadyH.cons rfl (fun K hK => ?_) AllReadyH.nil))
      · skip
        go_simp
        with_reducible refine (MO.out _).mono ?_
        rintro e w1 ⟨rfl, hb1'⟩
        have hb1 : Below (wa.heap.size) wa w1 := below_next hH.2 hb1'
        try go_wp2_with fail
        refine hK.out _ _ (KP.out _ hb1) (fun hH1 => ?_)
        clear hK K hH
        have hH := hH1
        clear hH1
        try simp only [Act.put, List.getElem_toArray, List.getElem_cons_succ, List.getElem_cons_zero, List.setIfInBounds_toArray, List.set_cons_zero, List.set_cons_succ]
        refine wpAnyH_ready (rs := [17]) (by kernel_rfl) (by simp) ?_
        refine (AllReadyH.cons rfl (fun K hK => ?_) AllReadyH.nil)
        go_simp
        have Sb2 : Blk (w1.alloc (.cells #[.int .u64 0, .int .u64 0] 75)) (w1.heap.size) 75 #[.int .u64 0, .int .u64 0] := Blk.new_at (by simp)
        have QGS : wa.heap.size ≤ w1.heap.size := Nat.le_trans (Below.size (hb1)) (Nat.le_of_eq (by simp))
        have hb2 := Below.alloc (hb1) (Below.size (hb1)) (.cells #[.int .u64 0, .int .u64 0] 75)
        refine hK.out _ _ (KP.out _ hb2) (fun hH2 => ?_)
        clear hK K hH
        have hH := hH2
        clear hH2
        try simp only [Act.put, List.getElem_toArray, List.getElem_cons_succ, List.getElem_cons_zero, List.setIfInBounds_toArray, List.set_cons_zero, List.set_cons_succ]
        refine wpAnyH_ready (rs := [18]) (by kernel_rfl) (by simp) ?_
        refine (AllReadyH.cons rfl (fun K hK => ?_) AllReadyH.nil)
        go_simp
        have Sb3 : Blk (w1.alloc (.cells #[.int .u64 ho, .int .u64 lo] 75)) (w1.heap.size) 75 #[.int .u64 ho, .int .u64 lo] := Blk.new_at (by simp)
        have hb3 := Below.alloc (hb1) (Below.size (hb1)) (.cells #[.int .u64 ho, .int .u64 lo] 75)
        refine hK.out _ _ (KP.out _ hb3) (fun hH3 => ?_)
        clear hK K hH
        have hH := hH3
        clear hH3
        try simp only [Act.put, List.getElem_toArray, List.getElem_cons_succ, List.getElem_cons_zero, List.setIfInBounds_toArray, List.set_cons_zero, List.set_cons_succ]
        refine wpAnyH_done (by kernel_rfl) ?_ _
        refine NoPanic.normal ?_
        go_wp2_with fail
        go_meet
        exact ⟨_, rfl, Sb3, QGS, hb3⟩
      · skip
        go_simp
        have Sb4 : Blk (wa.drew.alloc (.cells #[.int .u64 0, .int .u64 0] 75)) (wa.heap.size) 75 #[.int .u64 0, .int .u64 0] := Blk.new_at (by simp)
        have QGS : wa.heap.size ≤ wa.heap.size := Nat.le_trans (Below.size (hbR)) (Nat.le_of_eq (by simp))
        have hb4 := Below.alloc (hbR) (Below.size (hbR)) (.cells #[.int .u64 0, .int .u64 0] 75)
        refine hK.out _ _ (KP.out _ hb4) (fun hH4 => ?_)
        clear hK K hH
        have hH := hH4
        clear hH4
        try simp only [Act.put, List.getElem_toArray, List.getElem_cons_succ, List.getElem_cons_zero, List.setIfInBounds_toArray, List.set_cons_zero, List.set_cons_succ]
        refine wpAnyH_ready (rs := [16]) (by kernel_rfl) (by simp) ?_
        refine (AllReadyH.cons rfl (fun K hK => ?_) AllReadyH.nil)
        go_simp
        with_reducible refine (MO.out _).mono ?_
        rintro e w5 ⟨rfl, hb5'⟩
        have hb5 : Below (wa.heap.size) wa w5 := below_next hH.2 hb5'
        try go_wp2_with fail
        have Sb5 := Blk.next Sb4 hb5'
        have Sc50 : World.cell? w5 ⟨wa.heap.size, 0, none⟩ = some (.int .u64 0) := Blk.get Sb5 0 rfl
        have Sf50 : World.frozen? w5 ⟨wa.heap.size, 0, none⟩ = false := Blk.frozen Sb5 0
        have Sc51 : World.cell? w5 ⟨wa.heap.size, 1, none⟩ = some (.int .u64 0) := Blk.get Sb5 1 rfl
        have Sf51 : World.frozen? w5 ⟨wa.heap.size, 1, none⟩ = false := Blk.frozen Sb5 1
        have Sn5 := Blk.lt Sb5
        refine hK.out _ _ (KP.out _ hb5) (fun hH5 => ?_)
        clear hK K hH
        have hH := hH5
        clear hH5
        try simp only [Act.put, List.getElem_toArray, List.getElem_cons_succ, List.getElem_cons_zero, List.setIfInBounds_toArray, List.set_cons_zero, List.set_cons_succ]
        refine wpAnyH_ready (rs := [18]) (by kernel_rfl) (by simp) ?_
        refine (AllReadyH.cons rfl (fun K hK => ?_) AllReadyH.nil)
        go_simp
        have Sb6 := (Blk.put (Blk.put Sb5 0 (.int .u64 ho)) 1 (.int .u64 lo))
        have hb6 : Below (wa.heap.size) wa _ := (Below.setCell (p := ⟨wa.heap.size, 1, none⟩) (Below.setCell (p := ⟨wa.heap.size, 0, none⟩) hb5 (by show _ ≤ wa.heap.size; first | exact Nat.le_refl _ | exact hH.2.size | (simp only [World.size_alloc, World.size_drew] at *; omega)) (.int .u64 ho)) (by show _ ≤ wa.heap.size; first | exact Nat.le_refl _ | exact hH.2.size | (simp only [World.size_alloc, World.size_drew] at *; omega)) (.int .u64 lo))
        refine hK.out _ _ (KP.out _ hb6) (fun hH6 => ?_)
        clear hK K hH
        have hH := hH6
        clear hH6
        try simp only [Act.put, List.getElem_toArray, List.getElem_cons_succ, List.getElem_cons_zero, List.setIfInBounds_toArray, List.set_cons_zero, List.set_cons_succ]
        refine wpAnyH_done (by kernel_rfl) ?_ _
        refine NoPanic.normal ?_
        go_wp2_with fail
        go_meet
        exact ⟨_, rfl, Sb6, QGS, hb6⟩
    case rest =>
      obtain ⟨qo, rfl, Ob, hqo, B1⟩ := hcut
      obtain ⟨wb, rfl⟩ : ∃ x : World, x = wc := ⟨_, rfl⟩
      have n1 := Blk.lt HR.out
      have zo1 : w.heap.size + 1 < qo := by omega
      have HO := Lib.hid Ob
      have HF2 := Lib.hid (HF.out.next B1)
      have HR2 := Lib.hid (HR.out.next B1)
      have HB2 := Lib.hid (below_next HB.out B1)
      clear HF HR HB Ob B1 KP hqo n1
      go_wp2_with fail
      go_loopg [7] (m + 1) (fun gk ix wr => ∃ k : Nat, k + gk = m + 1 ∧ ix = .int .i64 k ∧ Blk wr w.heap.size 75 #[.int .u64 (hiW (minB 170141183460469231731687303715884105728 G k)), .int .u64 (loW (minB 170141183460469231731687303715884105728 G k))] ∧ Blk wr (w.heap.size + 1) 75 #[.int .u64 (hiW (minB 170141183460469231731687303715884105728 K k)), .int .u64 (loW (minB 170141183460469231731687303715884105728 K k))] ∧ Blk wr qo 75 #[.int .u64 ho, .int .u64 lo] ∧ Below w.heap.size w wr)
      case atStart => exact ⟨0, by omega, rfl, HF2.out, HR2.out, HO.out, HB2.out⟩
      case round =>
        obtain ⟨k, hk, rfl, Fb, Rb, Ob, B0⟩ := hrel
        clear HF2 HR2 HO HB2
        have Qw := Blk.below HQ.out B0 hqn
        have Qc3 : World.cell? wr ⟨q, 3, none⟩ = some (.slice (some ⟨g, 0, none⟩) (m + 1) cA) := Qw.get 3 rfl
        have Qc4 : World.cell? wr ⟨q, 4, none⟩ = some (.slice (some ⟨g', 0, none⟩) (m + 1) cD) := Qw.get 4 rfl
        have HQw := Lib.hid Qw
        have HB := Lib.hid B0
        have HF := Lib.hid Fb
        have HR := Lib.hid Rb
        have HO := Lib.hid Ob
        clear Fb Rb Ob B0 Qw
        by_cases hlt : k < m + 1
        · obtain ⟨gm, rfl⟩ : ∃ gm, gk = gm + 1 := ⟨gk - 1, by omega⟩
          have cX := (HB.out.cell (p := ⟨g, k, none⟩) hg).trans (HXC.out k hlt)
          have cY := (HB.out.cell (p := ⟨g', k, none⟩) hg').trans (HYC.out k hlt)
          have hg2 : g < wr.heap.size := Nat.lt_of_lt_of_le hg HB.out.size
          have hg2' : g' < wr.heap.size := Nat.lt_of_lt_of_le hg' HB.out.size
          have hx := HX.out k (by omega)
          have hy := HY.out k (by omega)
          have he := HE.out k (by omega)
          have eG := HG.out k
          have eK := HK.out k
          have k0 : (0 : Int) ≤ (k : Int) := by omega
          have k1 : (k : Int) < (m : Int) + 1 := by omega
          have HIw := Lib.hid (HI.out.fr (Fr.of_below HB.out) (fun j _ hj => by omega))
          have MG : Hid (minB 170141183460469231731687303715884105728 G (k + 1) = min (minB 170141183460469231731687303715884105728 G k) (G k)) := rfl
          have MK : Hid (minB 170141183460469231731687303715884105728 K (k + 1) = min (minB 170141183460469231731687303715884105728 K k) (K k)) := rfl
          obtain ⟨xm, exm⟩ : ∃ z, X m = z := ⟨_, rfl⟩
          obtain ⟨x, ex⟩ : ∃ z, X k = z := ⟨_, rfl⟩
          obtain ⟨y, ey⟩ : ∃ z, Y k = z := ⟨_, rfl⟩
          rw [exm] at hx he eG eK LA hx1
          rw [ex] at hx he eG eK cX
          rw [ey] at hy eG eK cY
          have hw : IntKind.u64.wrap (xm - x) = xm - x := by rw [IntKind.wrap_u64]; omega
          have wn : Word (xm - x) := ⟨by omega, by omega⟩
          obtain ⟨nn, enn⟩ : ∃ z, xm - x = z := ⟨_, rfl⟩
          rw [enn] at he eG eK wn
          have hw' : IntKind.u64.wrap (xm - x) = nn := hw.trans enn
          clear hw
          have hw := hw'
          obtain ⟨gk', egk⟩ : ∃ z, G k = z := ⟨_, rfl⟩
          obtain ⟨kk', ekk⟩ : ∃ z, K k = z := ⟨_, rfl⟩
          rw [egk] at eG MG
          rw [ekk] at eK MK
          obtain ⟨mg, emg⟩ : ∃ z, minB 170141183460469231731687303715884105728 G k = z := ⟨_, rfl⟩
          obtain ⟨mk, emk⟩ : ∃ z, minB 170141183460469231731687303715884105728 K k = z := ⟨_, rfl⟩
          rw [emg] at MG HF
          rw [emk] at MK HR
          have sm := hiW_small (x := y) ⟨hy.1, by omega⟩
          obtain ⟨hf, e1⟩ : ∃ z, hiW (F * nn) = z := ⟨_, rfl⟩
          obtain ⟨lf, e2⟩ : ∃ z, loW (F * nn) = z := ⟨_, rfl⟩
          obtain ⟨hr, e3⟩ : ∃ z, hiW (R * nn) = z := ⟨_, rfl⟩
          obtain ⟨lr, e4⟩ : ∃ z, loW (R * nn) = z := ⟨_, rfl⟩
          obtain ⟨ha, e5⟩ : ∃ z, hiW gk' = z := ⟨_, rfl⟩
          obtain ⟨la, e6⟩ : ∃ z, loW gk' = z := ⟨_, rfl⟩
          obtain ⟨hb, e7⟩ : ∃ z, hiW (y + R * nn) = z := ⟨_, rfl⟩
          obtain ⟨lb, e8⟩ : ∃ z, loW (y + R * nn) = z := ⟨_, rfl⟩
          obtain ⟨hc, e9⟩ : ∃ z, hiW kk' = z := ⟨_, rfl⟩
          obtain ⟨lc, e10⟩ : ∃ z, loW kk' = z := ⟨_, rfl⟩
          obtain ⟨hF, e11⟩ : ∃ z, hiW mg = z := ⟨_, rfl⟩
          obtain ⟨lF, e12⟩ : ∃ z, loW mg = z := ⟨_, rfl⟩
          obtain ⟨hR, e13⟩ : ∃ z, hiW mk = z := ⟨_, rfl⟩
          obtain ⟨lR, e14⟩ : ∃ z, loW mk = z := ⟨_, rfl⟩
          rw [e11, e12] at HF
          rw [e13, e14] at HR
          have wF : Word F := ⟨f0, by omega⟩
          have wR : Word R := ⟨r0, by omega⟩
          have o1 : (F - R) * L ≤ 1048576 * L := Int.mul_le_mul_of_nonneg_right (by omega) l0
          have MF := Lib.hid (fun w => refmul_v F nn hf lf w wF wn e1 e2)
          have MR := Lib.hid (fun w => refmul_v R nn hr lr w wR wn e3 e4)
          have PA := Lib.hid (fun w => refplus_v y (F * nn) 0 y hf lf ha la w hy.1 he.1.1 (by omega) sm.1 sm.2 e1 e2 (by rw [eG]; exact e5) (by rw [eG]; exact e6))
          have PB := Lib.hid (fun w => refplus_v y (R * nn) 0 y hr lr hb lb w hy.1 he.2.1 (by omega) sm.1 sm.2 e3 e4 e7 e8)
          have PC := Lib.hid (fun w => refplus_v (y + R * nn) ((F - R) * L) hb lb ho lo hc lc w (by omega) O0 (by omega) e7 e8 EO.out.1 EO.out.2 (by rw [eK]; exact e9) (by rw [eK]; exact e10))
          obtain ⟨c1, ec1, hc1⟩ := cmp_keep gk' mg
          obtain ⟨c2, ec2, hc2⟩ := cmp_keep kk' mk
          have C1 := Lib.hid (fun w => refcmp_v gk' mg ha la hF lF c1 w e5 e6 e11 e12 ec1)
          have C2 := Lib.hid (fun w => refcmp_v kk' mk hc lc hR lR c2 w e9 e10 e13 e14 ec2)
          have HC1 := Lib.hid hc1
          have HC2 := Lib.hid hc2
          have EE := Lib.hid (And.intro e5 (And.intro e6 (And.intro e9 (And.intro e10 (And.intro e11 (And.intro e12 (And.intro e13 e14)))))))
          have K8 : Hid (∀ w', Below (wr.heap.size) wr w' → (w'.cell? ⟨q, 3, none⟩ = some (.slice (some ⟨g, 0, none⟩) (m + 1) cA) ∧ w'.cell? ⟨g, k, none⟩ = some (.int .u64 x)) ∧ Below (wr.heap.size) wr w') := fun w' hb => ⟨⟨((Blk.next HQw.out hb).get 3 rfl), ((hb.cell (p := ⟨g, k, none⟩) hg2).trans cX)⟩, hb⟩
          have HcY := Lib.hid cY
          have Hnn := Lib.hid enn
          clear hx hy he eG eK exm ex ey egk ekk emg emk sm e1 e2 e3 e4 e5 e6 e7 e8 e9 e10 e11 e12 e13 e14 wF wR ec1 ec2 hc1 hc2 cX cY hlt HX HY HE HXC HYC HG HK o1 wn enn hw'
          go_wp2_with fail
          refine wp_region_noPanic ?_
          refine wp_region_held_drew (S := fun w' => (w'.cell? ⟨q, 3, none⟩ = some (.slice (some ⟨g, 0, none⟩) (m + 1) cA) ∧ w'.cell? ⟨g, k, none⟩ = some (.int .u64 x)) ∧ Below (wr.heap.size) wr w') (by kernel_rfl) (K8.out _ (below_of_drew (Below.refl wr.heap.size wr))) (fun hH => ?_)
          first | (refine wpAnyH_take (i := 0) (v := undef) rfl ?_ ?_ ?_ (fun _ _ _ h => h) ?_ ?_ ?_; kernel_rfl; kernel_rfl; kernel_rfl; exact Or.inr ⟨by rfl, rfl⟩; exact hH) | (refine wpAnyH_take (i := 0) (v := ?_) rfl ?_ ?_ ?_ (fun _ _ _ h => h) ?_ ?_ ?_; rotate_left; kernel_rfl; kernel_rfl; kernel_rfl; (focus (refine Or.inl ⟨by rfl, ?_⟩; intro w' hSw; (try dsimp only at hSw); go_simp)); exact hH) | (refine wpAnyH_take (i := 0) (v := ?_) rfl ?_ ?_ ?_ (fun _ _ _ h => h) ?_ ?_ ?_; rotate_left; kernel_rfl; kernel_rfl; kernel_rfl; (focus (refine Or.inl ⟨by rfl, ?_⟩; intro w' hSw; (try dsimp only at hSw); go_simp; with_reducible rfl)); exact hH)
          try simp only [Act.put, List.getElem_toArray, List.getElem_cons_succ, List.getElem_cons_zero, List.setIfInBounds_toArray, List.set_cons_zero, List.set_cons_succ]
          first | (refine wpAnyH_take (i := 2) (v := undef) rfl ?_ ?_ ?_ (fun _ _ _ h => h) ?_ ?_ ?_; kernel_rfl; kernel_rfl; kernel_rfl; exact Or.inr ⟨by rfl, rfl⟩; exact hH) | (refine wpAnyH_take (i := 2) (v := ?_) rfl ?_ ?_ ?_ (fun _ _ _ h => h) ?_ ?_ ?_; rotate_left; kernel_rfl; kernel_rfl; kernel_rfl; (focus (refine Or.inl ⟨by rfl, ?_⟩; intro w' hSw; (try dsimp only at hSw); go_simp)); exact hH) | (refine wpAnyH_take (i := 2) (v := ?_) rfl ?_ ?_ ?_ (fun _ _ _ h => h) ?_ ?_ ?_; rotate_left; kernel_rfl; kernel_rfl; kernel_rfl; (focus (refine Or.inl ⟨by rfl, ?_⟩; intro w' hSw; (try dsimp only at hSw); go_simp; with_reducible rfl)); exact hH)
          try simp only [Act.put, List.getElem_toArray, List.getElem_cons_succ, List.getElem_cons_zero, List.setIfInBounds_toArray, List.set_cons_zero, List.set_cons_succ]
          first | (refine wpAnyH_take (i := 3) (v := undef) rfl ?_ ?_ ?_ (fun _ _ _ h => h) ?_ ?_ ?_; kernel_rfl; kernel_rfl; kernel_rfl; exact Or.inr ⟨by rfl, rfl⟩; exact hH) | (refine wpAnyH_take (i := 3) (v := ?_) rfl ?_ ?_ ?_ (fun _ _ _ h => h) ?_ ?_ ?_; rotate_left; kernel_rfl; kernel_rfl; kernel_rfl; (focus (refine Or.inl ⟨by rfl, ?_⟩; intro w' hSw; (try dsimp only at hSw); go_simp)); exact hH) | (refine wpAnyH_take (i := 3) (v := ?_) rfl ?_ ?_ ?_ (fun _ _ _ h => h) ?_ ?_ ?_; rotate_left; kernel_rfl; kernel_rfl; kernel_rfl; (focus (refine Or.inl ⟨by rfl, ?_⟩; intro w' hSw; (try dsimp only at hSw); go_simp; with_reducible rfl)); exact hH)
          try simp only [Act.put, List.getElem_toArray, List.getElem_cons_succ, List.getElem_cons_zero, List.setIfInBounds_toArray, List.set_cons_zero, List.set_cons_succ]
          first | (refine wpAnyH_take (i := 4) (v := undef) rfl ?_ ?_ ?_ (fun _ _ _ h => h) ?_ ?_ ?_; kernel_rfl; kernel_rfl; kernel_rfl; exact Or.inr ⟨by rfl, rfl⟩; exact hH) | (refine wpAnyH_take (i := 4) (v := ?_) rfl ?_ ?_ ?_ (fun _ _ _ h => h) ?_ ?_ ?_; rotate_left; kernel_rfl; kernel_rfl; kernel_rfl; (focus (refine Or.inl ⟨by rfl, ?_⟩; intro w' hSw; (try dsimp only at hSw); go_simp)); exact hH) | (refine wpAnyH_take (i := 4) (v := ?_) rfl ?_ ?_ ?_ (fun _ _ _ h => h) ?_ ?_ ?_; rotate_left; kernel_rfl; kernel_rfl; kernel_rfl; (focus (refine Or.inl ⟨by rfl, ?_⟩; intro w' hSw; (try dsimp only at hSw); go_simp; with_reducible rfl)); exact hH)
          try simp only [Act.put, List.getElem_toArray, List.getElem_cons_succ, List.getElem_cons_zero, List.setIfInBounds_toArray, List.set_cons_zero, List.set_cons_succ]
          first | (refine wpAnyH_take (i := 5) (v := undef) rfl ?_ ?_ ?_ (fun _ _ _ h => h) ?_ ?_ ?_; kernel_rfl; kernel_rfl; kernel_rfl; exact Or.inr ⟨by rfl, rfl⟩; exact hH) | (refine wpAnyH_take (i := 5) (v := ?_) rfl ?_ ?_ ?_ (fun _ _ _ h => h) ?_ ?_ ?_; rotate_left; kernel_rfl; kernel_rfl; kernel_rfl; (focus (refine Or.inl ⟨by rfl, ?_⟩; intro w' hSw; (try dsimp only at hSw); go_simp)); exact hH) | (refine wpAnyH_take (i := 5) (v := ?_) rfl ?_ ?_ ?_ (fun _ _ _ h => h) ?_ ?_ ?_; rotate_left; kernel_rfl; kernel_rfl; kernel_rfl; (focus (refine Or.inl ⟨by rfl, ?_⟩; intro w' hSw; (try dsimp only at hSw); go_simp; with_reducible rfl)); exact hH)
          try simp only [Act.put, List.getElem_toArray, List.getElem_cons_succ, List.getElem_cons_zero, List.setIfInBounds_toArray, List.set_cons_zero, List.set_cons_succ]
          first | (refine wpAnyH_take (i := 6) (v := undef) rfl ?_ ?_ ?_ (fun _ _ _ h => h) ?_ ?_ ?_; kernel_rfl; kernel_rfl; kernel_rfl; exact Or.inr ⟨by rfl, rfl⟩; exact hH) | (refine wpAnyH_take (i := 6) (v := ?_) rfl ?_ ?_ ?_ (fun _ _ _ h => h) ?_ ?_ ?_; rotate_left; kernel_rfl; kernel_rfl; kernel_rfl; (focus (refine Or.inl ⟨by rfl, ?_⟩; intro w' hSw; (try dsimp only at hSw); go_simp)); exact hH) | (refine wpAnyH_take (i := 6) (v := ?_) rfl ?_ ?_ ?_ (fun _ _ _ h => h) ?_ ?_ ?_; rotate_left; kernel_rfl; kernel_rfl; kernel_rfl; (focus (refine Or.inl ⟨by rfl, ?_⟩; intro w' hSw; (try dsimp only at hSw); go_simp; with_reducible rfl)); exact hH)
          try simp only [Act.put, List.getElem_toArray, List.getElem_cons_succ, List.getElem_cons_zero, List.setIfInBounds_toArray, List.set_cons_zero, List.set_cons_succ]
          first | (refine wpAnyH_take (i := 7) (v := undef) rfl ?_ ?_ ?_ (fun _ _ _ h => h) ?_ ?_ ?_; kernel_rfl; kernel_rfl; kernel_rfl; exact Or.inr ⟨by rfl, rfl⟩; exact hH) | (refine wpAnyH_take (i := 7) (v := ?_) rfl ?_ ?_ ?_ (fun _ _ _ h => h) ?_ ?_ ?_; rotate_left; kernel_rfl; kernel_rfl; kernel_rfl; (focus (refine Or.inl ⟨by rfl, ?_⟩; intro w' hSw; (try dsimp only at hSw); go_simp)); exact hH) | (refine wpAnyH_take (i := 7) (v := ?_) rfl ?_ ?_ ?_ (fun _ _ _ h => h) ?_ ?_ ?_; rotate_left; kernel_rfl; kernel_rfl; kernel_rfl; (focus (refine Or.inl ⟨by rfl, ?_⟩; intro w' hSw; (try dsimp only at hSw); go_simp; with_reducible rfl)); exact hH)
          try simp only [Act.put, List.getElem_toArray, List.getElem_cons_succ, List.getElem_cons_zero, List.setIfInBounds_toArray, List.set_cons_zero, List.set_cons_succ]
          first | (refine wpAnyH_take (i := 8) (v := undef) rfl ?_ ?_ ?_ (fun _ _ _ h => h) ?_ ?_ ?_; kernel_rfl; kernel_rfl; kernel_rfl; exact Or.inr ⟨by rfl, rfl⟩; exact hH) | (refine wpAnyH_take (i := 8) (v := ?_) rfl ?_ ?_ ?_ (fun _ _ _ h => h) ?_ ?_ ?_; rotate_left; kernel_rfl; kernel_rfl; kernel_rfl; (focus (refine Or.inl ⟨by rfl, ?_⟩; intro w' hSw; (try dsimp only at hSw); go_simp)); exact hH) | (refine wpAnyH_take (i := 8) (v := ?_) rfl ?_ ?_ ?_ (fun _ _ _ h => h) ?_ ?_ ?_; rotate_left; kernel_rfl; kernel_rfl; kernel_rfl; (focus (refine Or.inl ⟨by rfl, ?_⟩; intro w' hSw; (try dsimp only at hSw); go_simp; with_reducible rfl)); exact hH)
          try simp only [Act.put, List.getElem_toArray, List.getElem_cons_succ, List.getElem_cons_zero, List.setIfInBounds_toArray, List.set_cons_zero, List.set_cons_succ]
          refine wpAnyH_ready (rs := [1]) (by kernel_rfl) (by simp) ?_
          refine AllReadyH.cons rfl (fun K hK => ?_) AllReadyH.nil
          go_simp
          with_reducible refine (LA.out _ (HIw.out.next hH.2)).mono ?_
          rintro e w11 ⟨rfl, hb11'⟩
          have hb11 : Below wr.heap.size wr w11 := below_next hH.2 hb11'
          try go_wp2_with fail
          refine hK.out _ _ (K8.out _ hb11) (fun hH11 => ?_)
          clear hK K hH
          have hH := hH11
          clear hH11
          try simp only [Act.put, List.getElem_toArray, List.getElem_cons_succ, List.getElem_cons_zero, List.setIfInBounds_toArray, List.set_cons_zero, List.set_cons_succ]
          first | (refine wpAnyH_take (i := 9) (v := undef) rfl ?_ ?_ ?_ (fun _ _ _ h => h) ?_ ?_ ?_; kernel_rfl; kernel_rfl; kernel_rfl; exact Or.inr ⟨by rfl, rfl⟩; exact hH) | (refine wpAnyH_take (i := 9) (v := ?_) rfl ?_ ?_ ?_ (fun _ _ _ h => h) ?_ ?_ ?_; rotate_left; kernel_rfl; kernel_rfl; kernel_rfl; (focus (refine Or.inl ⟨by rfl, ?_⟩; intro w' hSw; (try dsimp only at hSw); go_simp)); exact hH) | (refine wpAnyH_take (i := 9) (v := ?_) rfl ?_ ?_ ?_ (fun _ _ _ h => h) ?_ ?_ ?_; rotate_left; kernel_rfl; kernel_rfl; kernel_rfl; (focus (refine Or.inl ⟨by rfl, ?_⟩; intro w' hSw; (try dsimp only at hSw); go_simp; with_reducible rfl)); exact hH)
          try simp only [Act.put, List.getElem_toArray, List.getElem_cons_succ, List.getElem_cons_zero, List.setIfInBounds_toArray, List.set_cons_zero, List.set_cons_succ]
          first | (refine wpAnyH_take (i := 10) (v := undef) rfl ?_ ?_ ?_ (fun _ _ _ h => h) ?_ ?_ ?_; kernel_rfl; kernel_rfl; kernel_rfl; exact Or.inr ⟨by rfl, rfl⟩; exact hH) | (refine wpAnyH_take (i := 10) (v := ?_) rfl ?_ ?_ ?_ (fun _ _ _ h => h) ?_ ?_ ?_; rotate_left; kernel_rfl; kernel_rfl; kernel_rfl; (focus (refine Or.inl ⟨by rfl, ?_⟩; intro w' hSw; (try dsimp only at hSw); go_simp)); exact hH) | (refine wpAnyH_take (i := 10) (v := ?_) rfl ?_ ?_ ?_ (fun _ _ _ h => h) ?_ ?_ ?_; rotate_left; kernel_rfl; kernel_rfl; kernel_rfl; (focus (refine Or.inl ⟨by rfl, ?_⟩; intro w' hSw; (try dsimp only at hSw); go_simp; with_reducible rfl)); exact hH)
          try simp only [Act.put, List.getElem_toArray, List.getElem_cons_succ, List.getElem_cons_zero, List.setIfInBounds_toArray, List.set_cons_zero, List.set_cons_succ]
          refine wpAnyH_done (by kernel_rfl) ?_ _
          refine NoPanic.normal ?_
          clear hH
          have cY2 : World.cell? w11 ⟨g', k, none⟩ = some (.int .u64 y) := (hb11.cell (p := ⟨g', k, none⟩) hg2').trans HcY.out
          have Qd4 : World.cell? w11 ⟨q, 4, none⟩ = some (.slice (some ⟨g', 0, none⟩) (m + 1) cD) := (Blk.next HQw.out hb11).get 4 rfl
          have HB11 := Lib.hid hb11
          clear hb11 Qc3 Qc4 K8 LA HIw
          go_upto_region 9 with (fail)
          go_cut [9] (fun yv wc => ∃ qy, yv = .pointer (some ⟨qy, 0, none⟩) ∧ Blk wc qy 75 #[.int .u64 0, .int .u64 y] ∧ wr.heap.size ≤ qy ∧ Below wr.heap.size wr wc)
          case first =>
            go_wp2_with fail
            go_meet
            exact ⟨_, rfl, Blk.new w11 _ _, HB11.out.size, HB11.out.alloc HB11.out.size _⟩
          case rest =>
            obtain ⟨qy, rfl, Yb, hqy, B9⟩ := hcut
            obtain ⟨wy, rfl⟩ : ∃ x : World, x = wc := ⟨_, rfl⟩
            have QY := Blk.next HQw.out B9
            have HYB := Lib.hid Yb
            have HQY := Lib.hid QY
            have HB9 := Lib.hid B9
            have KA : Hid (∀ w', Below (wy.heap.size) wy w' → (w'.cell? ⟨qy, 0, none⟩ = some (.int .u64 0) ∧ w'.cell? ⟨qy, 1, none⟩ = some (.int .u64 y) ∧ w'.cell? ⟨q, 0, none⟩ = some (.int .u64 F)) ∧ Below (wy.heap.size) wy w') := fun w' hb => ⟨⟨((Blk.next Yb hb).get 0 rfl), ((Blk.next Yb hb).get 1 rfl), ((Blk.next QY hb).get 0 rfl)⟩, hb⟩
            clear cY2 Qd4 HB11 Yb QY B9
            go_upto_region 10 with (fail)
            go_cut [10, 11] (fun av ev wc => ∃ qa, av = .pointer (some ⟨qa, 0, none⟩) ∧ ev = .int .i64 0 ∧ Blk wc qa 75 #[.int .u64 ha, .int .u64 la] ∧ wy.heap.size ≤ qa ∧ Below wy.heap.size wy wc)
            case first =>
              refine wp_region_noPanic ?_
              refine wp_region_held_drew (S := fun w' => (w'.cell? ⟨qy, 0, none⟩ = some (.int .u64 0) ∧ w'.cell? ⟨qy, 1, none⟩ = some (.int .u64 y) ∧ w'.cell? ⟨q, 0, none⟩ = some (.int .u64 F)) ∧ Below (wy.heap.size) wy w') (by kernel_rfl) (KA.out _ (below_of_drew ((Below.refl wy.heap.size wy)))) (fun hH => ?_)
              have hbR := below_of_drew ((Below.refl wy.heap.size wy))
              first | (refine wpAnyH_take (i := 0) (v := undef) rfl ?_ ?_ ?_ (fun _ _ _ h => h) ?_ ?_ ?_; kernel_rfl; kernel_rfl; kernel_rfl; exact Or.inr ⟨by rfl, rfl⟩; exact hH) | (refine wpAnyH_take (i := 0) (v := ?_) rfl ?_ ?_ ?_ (fun _ _ _ h => h) ?_ ?_ ?_; rotate_left; kernel_rfl; kernel_rfl; kernel_rfl; (focus (refine Or.inl ⟨by rfl, ?_⟩; intro w' hSw; (try dsimp only at hSw); go_simp)); exact hH) | (refine wpAnyH_take (i := 0) (v := ?_) rfl ?_ ?_ ?_ (fun _ _ _ h => h) ?_ ?_ ?_; rotate_left; kernel_rfl; kernel_rfl; kernel_rfl; (focus (refine Or.inl ⟨by rfl, ?_⟩; intro w' hSw; (try dsimp only at hSw); go_simp; with_reducible rfl)); exact hH)
              try simp only [Act.put, List.getElem_toArray, List.getElem_cons_succ, List.getElem_cons_zero, List.setIfInBounds_toArray, List.set_cons_zero, List.set_cons_succ]
              first | (refine wpAnyH_take (i := 1) (v := undef) rfl ?_ ?_ ?_ (fun _ _ _ h => h) ?_ ?_ ?_; kernel_rfl; kernel_rfl; kernel_rfl; exact Or.inr ⟨by rfl, rfl⟩; exact hH) | (refine wpAnyH_take (i := 1) (v := ?_) rfl ?_ ?_ ?_ (fun _ _ _ h => h) ?_ ?_ ?_; rotate_left; kernel_rfl; kernel_rfl; kernel_rfl; (focus (refine Or.inl ⟨by rfl, ?_⟩; intro w' hSw; (try dsimp only at hSw); go_simp)); exact hH) | (refine wpAnyH_take (i := 1) (v := ?_) rfl ?_ ?_ ?_ (fun _ _ _ h => h) ?_ ?_ ?_; rotate_left; kernel_rfl; kernel_rfl; kernel_rfl; (focus (refine Or.inl ⟨by rfl, ?_⟩; intro w' hSw; (try dsimp only at hSw); go_simp; with_reducible rfl)); exact hH)
              try simp only [Act.put, List.getElem_toArray, List.getElem_cons_succ, List.getElem_cons_zero, List.setIfInBounds_toArray, List.set_cons_zero, List.set_cons_succ]
              first | (refine wpAnyH_take (i := 2) (v := undef) rfl ?_ ?_ ?_ (fun _ _ _ h => h) ?_ ?_ ?_; kernel_rfl; kernel_rfl; kernel_rfl; exact Or.inr ⟨by rfl, rfl⟩; exact hH) | (refine wpAnyH_take (i := 2) (v := ?_) rfl ?_ ?_ ?_ (fun _ _ _ h => h) ?_ ?_ ?_; rotate_left; kernel_rfl; kernel_rfl; kernel_rfl; (focus (refine Or.inl ⟨by rfl, ?_⟩; intro w' hSw; (try dsimp only at hSw); go_simp)); exact hH) | (refine wpAnyH_take (i := 2) (v := ?_) rfl ?_ ?_ ?_ (fun _ _ _ h => h) ?_ ?_ ?_; rotate_left; kernel_rfl; kernel_rfl; kernel_rfl; (focus (refine Or.inl ⟨by rfl, ?_⟩; intro w' hSw; (try dsimp only at hSw); go_simp; with_reducible rfl)); exact hH)
              try simp only [Act.put, List.getElem_toArray, List.getElem_cons_succ, List.getElem_cons_zero, List.setIfInBounds_toArray, List.set_cons_zero, List.set_cons_succ]
              first | (refine wpAnyH_take (i := 3) (v := undef) rfl ?_ ?_ ?_ (fun _ _ _ h => h) ?_ ?_ ?_; kernel_rfl; kernel_rfl; kernel_rfl; exact Or.inr ⟨by rfl, rfl⟩; exact hH) | (refine wpAnyH_take (i := 3) (v := ?_) rfl ?_ ?_ ?_ (fun _ _ _ h => h) ?_ ?_ ?_; rotate_left; kernel_rfl; kernel_rfl; kernel_rfl; (focus (refine Or.inl ⟨by rfl, ?_⟩; intro w' hSw; (try dsimp only at hSw); go_simp)); exact hH) | (refine wpAnyH_take (i := 3) (v := ?_) rfl ?_ ?_ ?_ (fun _ _ _ h => h) ?_ ?_ ?_; rotate_left; kernel_rfl; kernel_rfl; kernel_rfl; (focus (refine Or.inl ⟨by rfl, ?_⟩; intro w' hSw; (try dsimp only at hSw); go_simp; with_reducible rfl)); exact hH)
              try simp only [Act.put, List.getElem_toArray, List.getElem_cons_succ, List.getElem_cons_zero, List.setIfInBounds_toArray, List.set_cons_zero, List.set_cons_succ]
              first | (refine wpAnyH_take (i := 4) (v := undef) rfl ?_ ?_ ?_ (fun _ _ _ h => h) ?_ ?_ ?_; kernel_rfl; kernel_rfl; kernel_rfl; exact Or.inr ⟨by rfl, rfl⟩; exact hH) | (refine wpAnyH_take (i := 4) (v := ?_) rfl ?_ ?_ ?_ (fun _ _ _ h => h) ?_ ?_ ?_; rotate_left; kernel_rfl; kernel_rfl; kernel_rfl; (focus (refine Or.inl ⟨by rfl, ?_⟩; intro w' hSw; (try dsimp only at hSw); go_simp)); exact hH) | (refine wpAnyH_take (i := 4) (v := ?_) rfl ?_ ?_ ?_ (fun _ _ _ h => h) ?_ ?_ ?_; rotate_left; kernel_rfl; kernel_rfl; kernel_rfl; (focus (refine Or.inl ⟨by rfl, ?_⟩; intro w' hSw; (try dsimp only at hSw); go_simp; with_reducible rfl)); exact hH)
              try simp only [Act.put, List.getElem_toArray, List.getElem_cons_succ, List.getElem_cons_zero, List.setIfInBounds_toArray, List.set_cons_zero, List.set_cons_succ]
              first | (refine wpAnyH_take (i := 5) (v := undef) rfl ?_ ?_ ?_ (fun _ _ _ h => h) ?_ ?_ ?_; kernel_rfl; kernel_rfl; kernel_rfl; exact Or.inr ⟨by rfl, rfl⟩; exact hH) | (refine wpAnyH_take (i := 5) (v := ?_) rfl ?_ ?_ ?_ (fun _ _ _ h => h) ?_ ?_ ?_; rotate_left; kernel_rfl; kernel_rfl; kernel_rfl; (focus (refine Or.inl ⟨by rfl, ?_⟩; intro w' hSw; (try dsimp only at hSw); go_simp)); exact hH) | (refine wpAnyH_take (i := 5) (v := ?_) rfl ?_ ?_ ?_ (fun _ _ _ h => h) ?_ ?_ ?_; rotate_left; kernel_rfl; kernel_rfl; kernel_rfl; (focus (refine Or.inl ⟨by rfl, ?_⟩; intro w' hSw; (try dsimp only at hSw); go_simp; with_reducible rfl)); exact hH)
              try simp only [Act.put, List.getElem_toArray, List.getElem_cons_succ, List.getElem_cons_zero, List.setIfInBounds_toArray, List.set_cons_zero, List.set_cons_succ]
              first | (refine wpAnyH_take (i := 6) (v := undef) rfl ?_ ?_ ?_ (fun _ _ _ h => h) ?_ ?_ ?_; kernel_rfl; kernel_rfl; kernel_rfl; exact Or.inr ⟨by rfl, rfl⟩; exact hH) | (refine wpAnyH_take (i := 6) (v := ?_) rfl ?_ ?_ ?_ (fun _ _ _ h => h) ?_ ?_ ?_; rotate_left; kernel_rfl; kernel_rfl; kernel_rfl; (focus (refine Or.inl ⟨by rfl, ?_⟩; intro w' hSw; (try dsimp only at hSw); go_simp)); exact hH) | (refine wpAnyH_take (i := 6) (v := ?_) rfl ?_ ?_ ?_ (fun _ _ _ h => h) ?_ ?_ ?_; rotate_left; kernel_rfl; kernel_rfl; kernel_rfl; (focus (refine Or.inl ⟨by rfl, ?_⟩; intro w' hSw; (try dsimp only at hSw); go_simp; with_reducible rfl)); exact hH)
              try simp only [Act.put, List.getElem_toArray, List.getElem_cons_succ, List.getElem_cons_zero, List.setIfInBounds_toArray, List.set_cons_zero, List.set_cons_succ]
              refine wpAnyH_ready (rs := [7, 12]) (by kernel_rfl) (by simp) ?_
              refine (AllReadyH.cons rfl (fun K hK => ?_) (AllReadyH.cons rfl (fun K hK => ?_) AllReadyH.nil))
              · skip
                go_simp
                with_reducible refine (MF.out _).mono ?_
                rintro e w12 ⟨rfl, hb12'⟩
                have hb12 : Below (wy.heap.size) wy w12 := below_next hH.2 hb12'
                try go_wp2_with fail
                refine hK.out _ _ (KA.out _ hb12) (fun hH12 => ?_)
                clear hK K hH
                have hH := hH12
                clear hH12
                try simp only [Act.put, List.getElem_toArray, List.getElem_cons_succ, List.getElem_cons_zero, List.setIfInBounds_toArray, List.set_cons_zero, List.set_cons_succ]
                refine wpAnyH_ready (rs := [8, 12]) (by kernel_rfl) (by simp) ?_
                refine (AllReadyH.cons rfl (fun K hK => ?_) (AllReadyH.cons rfl (fun K hK => ?_) AllReadyH.nil))
                · skip
                  go_simp
                  with_reducible refine (PA.out _).mono ?_
                  rintro e w13 ⟨rfl, hb13'⟩
                  have hb13 : Below (wy.heap.size) wy w13 := below_next hH.2 hb13'
                  try go_wp2_with fail
                  refine hK.out _ _ (KA.out _ hb13) (fun hH13 => ?_)
                  clear hK K hH
                  have hH := hH13
                  clear hH13
                  try simp only [Act.put, List.getElem_toArray, List.getElem_cons_succ, List.getElem_cons_zero, List.setIfInBounds_toArray, List.set_cons_zero, List.set_cons_succ]
                  first | (refine wpAnyH_take (i := 9) (v := undef) rfl ?_ ?_ ?_ (fun _ _ _ h => h) ?_ ?_ ?_; kernel_rfl; kernel_rfl; kernel_rfl; exact Or.inr ⟨by rfl, rfl⟩; exact hH) | (refine wpAnyH_take (i := 9) (v := ?_) rfl ?_ ?_ ?_ (fun _ _ _ h => h) ?_ ?_ ?_; rotate_left; kernel_rfl; kernel_rfl; kernel_rfl; (focus (refine Or.inl ⟨by rfl, ?_⟩; intro w' hSw; (try dsimp only at hSw); go_simp)); exact hH) | (refine wpAnyH_take (i := 9) (v := ?_) rfl ?_ ?_ ?_ (fun _ _ _ h => h) ?_ ?_ ?_; rotate_left; kernel_rfl; kernel_rfl; kernel_rfl; (focus (refine Or.inl ⟨by rfl, ?_⟩; intro w' hSw; (try dsimp only at hSw); go_simp; with_reducible rfl)); exact hH)
                  try simp only [Act.put, List.getElem_toArray, List.getElem_cons_succ, List.getElem_cons_zero, List.setIfInBounds_toArray, List.set_cons_zero, List.set_cons_succ]
                  first | (refine wpAnyH_take (i := 10) (v := undef) rfl ?_ ?_ ?_ (fun _ _ _ h => h) ?_ ?_ ?_; kernel_rfl; kernel_rfl; kernel_rfl; exact Or.inr ⟨by rfl, rfl⟩; exact hH) | (refine wpAnyH_take (i := 10) (v := ?_) rfl ?_ ?_ ?_ (fun _ _ _ h => h) ?_ ?_ ?_; rotate_left; kernel_rfl; kernel_rfl; kernel_rfl; (focus (refine Or.inl ⟨by rfl, ?_⟩; intro w' hSw; (try dsimp only at hSw); go_simp)); exact hH) | (refine wpAnyH_take (i := 10) (v := ?_) rfl ?_ ?_ ?_ (fun _ _ _ h => h) ?_ ?_ ?_; rotate_left; kernel_rfl; kernel_rfl; kernel_rfl; (focus (refine Or.inl ⟨by rfl, ?_⟩; intro w' hSw; (try dsimp only at hSw); go_simp; with_reducible rfl)); exact hH)
                  try simp only [Act.put, List.getElem_toArray, List.getElem_cons_succ, List.getElem_cons_zero, List.setIfInBounds_toArray, List.set_cons_zero, List.set_cons_succ]
                  first | (refine wpAnyH_take (i := 11) (v := undef) rfl ?_ ?_ ?_ (fun _ _ _ h => h) ?_ ?_ ?_; kernel_rfl; kernel_rfl; kernel_rfl; exact Or.inr ⟨by rfl, rfl⟩; exact hH) | (refine wpAnyH_take (i := 11) (v := ?_) rfl ?_ ?_ ?_ (fun _ _ _ h => h) ?_ ?_ ?_; rotate_left; kernel_rfl; kernel_rfl; kernel_rfl; (focus (refine Or.inl ⟨by rfl, ?_⟩; intro w' hSw; (try dsimp only at hSw); go_simp)); exact hH) | (refine wpAnyH_take (i := 11) (v := ?_) rfl ?_ ?_ ?_ (fun _ _ _ h => h) ?_ ?_ ?_; rotate_left; kernel_rfl; kernel_rfl; kernel_rfl; (focus (refine Or.inl ⟨by rfl, ?_⟩; intro w' hSw; (try dsimp only at hSw); go_simp; with_reducible rfl)); exact hH)
                  try simp only [Act.put, List.getElem_toArray, List.getElem_cons_succ, List.getElem_cons_zero, List.setIfInBounds_toArray, List.set_cons_zero, List.set_cons_succ]
                  refine wpAnyH_ready (rs := [12]) (by kernel_rfl) (by simp) ?_
                  refine (AllReadyH.cons rfl (fun K hK => ?_) AllReadyH.nil)
                  go_simp
                  have Sb14 : Blk (w13.alloc (.cells #[.int .u64 0, .int .u64 0] 75)) (w13.heap.size) 75 #[.int .u64 0, .int .u64 0] := Blk.new_at (by simp)
                  have QGS : wy.heap.size ≤ w13.heap.size := Nat.le_trans (Below.size (hb13)) (Nat.le_of_eq (by simp))
                  have hb14 := Below.alloc (hb13) (Below.size (hb13)) (.cells #[.int .u64 0, .int .u64 0] 75)
                  refine hK.out _ _ (KA.out _ hb14) (fun hH14 => ?_)
                  clear hK K hH
                  have hH := hH14
                  clear hH14
                  try simp only [Act.put, List.getElem_toArray, List.getElem_cons_succ, List.getElem_cons_zero, List.setIfInBounds_toArray, List.set_cons_zero, List.set_cons_succ]
                  refine wpAnyH_ready (rs := [13]) (by kernel_rfl) (by simp) ?_
                  refine (AllReadyH.cons rfl (fun K hK => ?_) AllReadyH.nil)
                  go_simp
                  have Sb15 : Blk (w13.alloc (.cells #[.int .u64 ha, .int .u64 la] 75)) (w13.heap.size) 75 #[.int .u64 ha, .int .u64 la] := Blk.new_at (by simp)
                  have hb15 := Below.alloc (hb13) (Below.size (hb13)) (.cells #[.int .u64 ha, .int .u64 la] 75)
                  refine hK.out _ _ (KA.out _ hb15) (fun hH15 => ?_)
                  clear hK K hH
                  have hH := hH15
                  clear hH15
                  try simp only [Act.put, List.getElem_toArray, List.getElem_cons_succ, List.getElem_cons_zero, List.setIfInBounds_toArray, List.set_cons_zero, List.set_cons_succ]
                  first | (refine wpAnyH_take (i := 14) (v := undef) rfl ?_ ?_ ?_ (fun _ _ _ h => h) ?_ ?_ ?_; kernel_rfl; kernel_rfl; kernel_rfl; exact Or.inr ⟨by rfl, rfl⟩; exact hH) | (refine wpAnyH_take (i := 14) (v := ?_) rfl ?_ ?_ ?_ (fun _ _ _ h => h) ?_ ?_ ?_; rotate_left; kernel_rfl; kernel_rfl; kernel_rfl; (focus (refine Or.inl ⟨by rfl, ?_⟩; intro w' hSw; (try dsimp only at hSw); go_simp)); exact hH) | (refine wpAnyH_take (i := 14) (v := ?_) rfl ?_ ?_ ?_ (fun _ _ _ h => h) ?_ ?_ ?_; rotate_left; kernel_rfl; kernel_rfl; kernel_rfl; (focus (refine Or.inl ⟨by rfl, ?_⟩; intro w' hSw; (try dsimp only at hSw); go_simp; with_reducible rfl)); exact hH)
                  try simp only [Act.put, List.getElem_toArray, List.getElem_cons_succ, List.getElem_cons_zero, List.setIfInBounds_toArray, List.set_cons_zero, List.set_cons_succ]
                  refine wpAnyH_done (by kernel_rfl) ?_ _
                  refine NoPanic.normal ?_
                  go_wp2_with fail
                  go_meet
                  exact ⟨_, rfl, rfl, Sb15, QGS, hb15⟩
                · skip
                  go_simp
                  have Sb16 : Blk (w12.alloc (.cells #[.int .u64 0, .int .u64 0] 75)) (w12.heap.size) 75 #[.int .u64 0, .int .u64 0] := Blk.new_at (by simp)
                  have QGS : wy.heap.size ≤ w12.heap.size := Nat.le_trans (Below.size (hb12)) (Nat.le_of_eq (by simp))
                  have hb16 := Below.alloc (hb12) (Below.size (hb12)) (.cells #[.int .u64 0, .int .u64 0] 75)
                  refine hK.out _ _ (KA.out _ hb16) (fun hH16 => ?_)
                  clear hK K hH
                  have hH := hH16
                  clear hH16
                  try simp only [Act.put, List.getElem_toArray, List.getElem_cons_succ, List.getElem_cons_zero, List.setIfInBounds_toArray, List.set_cons_zero, List.set_cons_succ]
                  refine wpAnyH_ready (rs := [8]) (by kernel_rfl) (by simp) ?_
                  refine (AllReadyH.cons rfl (fun K hK => ?_) AllReadyH.nil)
                  go_simp
                  with_reducible refine (PA.out _).mono ?_
                  rintro e w17 ⟨rfl, hb17'⟩
                  have hb17 : Below (wy.heap.size) wy w17 := below_next hH.2 hb17'
                  try go_wp2_with fail
                  have Sb17 := Blk.next Sb16 hb17'
                  have Sc170 : World.cell? w17 ⟨w12.heap.size, 0, none⟩ = some (.int .u64 0) := Blk.get Sb17 0 rfl
                  have Sf170 : World.frozen? w17 ⟨w12.heap.size, 0, none⟩ = false := Blk.frozen Sb17 0
                  have Sc171 : World.cell? w17 ⟨w12.heap.size, 1, none⟩ = some (.int .u64 0) := Blk.get Sb17 1 rfl
                  have Sf171 : World.frozen? w17 ⟨w12.heap.size, 1, none⟩ = false := Blk.frozen Sb17 1
                  have Sn17 := Blk.lt Sb17
                  refine hK.out _ _ (KA.out _ hb17) (fun hH17 => ?_)
                  clear hK K hH
                  have hH := hH17
                  clear hH17
                  try simp only [Act.put, List.getElem_toArray, List.getElem_cons_succ, List.getElem_cons_zero, List.setIfInBounds_toArray, List.set_cons_zero, List.set_cons_succ]
                  first | (refine wpAnyH_take (i := 9) (v := undef) rfl ?_ ?_ ?_ (fun _ _ _ h => h) ?_ ?_ ?_; kernel_rfl; kernel_rfl; kernel_rfl; exact Or.inr ⟨by rfl, rfl⟩; exact hH) | (refine wpAnyH_take (i := 9) (v := ?_) rfl ?_ ?_ ?_ (fun _ _ _ h => h) ?_ ?_ ?_; rotate_left; kernel_rfl; kernel_rfl; kernel_rfl; (focus (refine Or.inl ⟨by rfl, ?_⟩; intro w' hSw; (try dsimp only at hSw); go_simp)); exact hH) | (refine wpAnyH_take (i := 9) (v := ?_) rfl ?_ ?_ ?_ (fun _ _ _ h => h) ?_ ?_ ?_; rotate_left; kernel_rfl; kernel_rfl; kernel_rfl; (focus (refine Or.inl ⟨by rfl, ?_⟩; intro w' hSw; (try dsimp only at hSw); go_simp; with_reducible rfl)); exact hH)
                  try simp only [Act.put, List.getElem_toArray, List.getElem_cons_succ, List.getElem_cons_zero, List.setIfInBounds_toArray, List.set_cons_zero, List.set_cons_succ]
                  first | (refine wpAnyH_take (i := 10) (v := undef) rfl ?_ ?_ ?_ (fun _ _ _ h => h) ?_ ?_ ?_; kernel_rfl; kernel_rfl; kernel_rfl; exact Or.inr ⟨by rfl, rfl⟩; exact hH) | (refine wpAnyH_take (i := 10) (v := ?_) rfl ?_ ?_ ?_ (fun _ _ _ h => h) ?_ ?_ ?_; rotate_left; kernel_rfl; kernel_rfl; kernel_rfl; (focus (refine Or.inl ⟨by rfl, ?_⟩; intro w' hSw; (try dsimp only at hSw); go_simp)); exact hH) | (refine wpAnyH_take (i := 10) (v := ?_) rfl ?_ ?_ ?_ (fun _ _ _ h => h) ?_ ?_ ?_; rotate_left; kernel_rfl; kernel_rfl; kernel_rfl; (focus (refine Or.inl ⟨by rfl, ?_⟩; intro w' hSw; (try dsimp only at hSw); go_simp; with_reducible rfl)); exact hH)
                  try simp only [Act.put, List.getElem_toArray, List.getElem_cons_succ, List.getElem_cons_zero, List.setIfInBounds_toArray, List.set_cons_zero, List.set_cons_succ]
                  first | (refine wpAnyH_take (i := 11) (v := undef) rfl ?_ ?_ ?_ (fun _ _ _ h => h) ?_ ?_ ?_; kernel_rfl; kernel_rfl; kernel_rfl; exact Or.inr ⟨by rfl, rfl⟩; exact hH) | (refine wpAnyH_take (i := 11) (v := ?_) rfl ?_ ?_ ?_ (fun _ _ _ h => h) ?_ ?_ ?_; rotate_left; kernel_rfl; kernel_rfl; kernel_rfl; (focus (refine Or.inl ⟨by rfl, ?_⟩; intro w' hSw; (try dsimp only at hSw); go_simp)); exact hH) | (refine wpAnyH_take (i := 11) (v := ?_) rfl ?_ ?_ ?_ (fun _ _ _ h => h) ?_ ?_ ?_; rotate_left; kernel_rfl; kernel_rfl; kernel_rfl; (focus (refine Or.inl ⟨by rfl, ?_⟩; intro w' hSw; (try dsimp only at hSw); go_simp; with_reducible rfl)); exact hH)
                  try simp only [Act.put, List.getElem_toArray, List.getElem_cons_succ, List.getElem_cons_zero, List.setIfInBounds_toArray, List.set_cons_zero, List.set_cons_succ]
                  refine wpAnyH_ready (rs := [13]) (by kernel_rfl) (by simp) ?_
                  refine (AllReadyH.cons rfl (fun K hK => ?_) AllReadyH.nil)
                  go_simp
                  have Sb18 := (Blk.put (Blk.put Sb17 0 (.int .u64 ha)) 1 (.int .u64 la))
                  have hb18 : Below (wy.heap.size) wy _ := (Below.setCell (p := ⟨w12.heap.size, 1, none⟩) (Below.setCell (p := ⟨w12.heap.size, 0, none⟩) hb17 (by show _ ≤ w12.heap.size; first | exact Nat.le_refl _ | exact hH.2.size | (simp only [World.size_alloc, World.size_drew] at *; omega)) (.int .u64 ha)) (by show _ ≤ w12.heap.size; first | exact Nat.le_refl _ | exact hH.2.size | (simp only [World.size_alloc, World.size_drew] at *; omega)) (.int .u64 la))
                  refine hK.out _ _ (KA.out _ hb18) (fun hH18 => ?_)
                  clear hK K hH
                  have hH := hH18
                  clear hH18
                  try simp only [Act.put, List.getElem_toArray, List.getElem_cons_succ, List.getElem_cons_zero, List.setIfInBounds_toArray, List.set_cons_zero, List.set_cons_succ]
                  first | (refine wpAnyH_take (i := 14) (v := undef) rfl ?_ ?_ ?_ (fun _ _ _ h => h) ?_ ?_ ?_; kernel_rfl; kernel_rfl; kernel_rfl; exact Or.inr ⟨by rfl, rfl⟩; exact hH) | (refine wpAnyH_take (i := 14) (v := ?_) rfl ?_ ?_ ?_ (fun _ _ _ h => h) ?_ ?_ ?_; rotate_left; kernel_rfl; kernel_rfl; kernel_rfl; (focus (refine Or.inl ⟨by rfl, ?_⟩; intro w' hSw; (try dsimp only at hSw); go_simp)); exact hH) | (refine wpAnyH_take (i := 14) (v := ?_) rfl ?_ ?_ ?_ (fun _ _ _ h => h) ?_ ?_ ?_; rotate_left; kernel_rfl; kernel_rfl; kernel_rfl; (focus (refine Or.inl ⟨by rfl, ?_⟩; intro w' hSw; (try dsimp only at hSw); go_simp; with_reducible rfl)); exact hH)
                  try simp only [Act.put, List.getElem_toArray, List.getElem_cons_succ, List.getElem_cons_zero, List.setIfInBounds_toArray, List.set_cons_zero, List.set_cons_succ]
                  refine wpAnyH_done (by kernel_rfl) ?_ _
                  refine NoPanic.normal ?_
                  go_wp2_with fail
                  go_meet
                  exact ⟨_, rfl, rfl, Sb18, QGS, hb18⟩
              · skip
                go_simp
                have Sb19 : Blk (wy.drew.alloc (.cells #[.int .u64 0, .int .u64 0] 75)) (wy.heap.size) 75 #[.int .u64 0, .int .u64 0] := Blk.new_at (by simp)
                have QGS : wy.heap.size ≤ wy.heap.size := Nat.le_trans (Below.size (hbR)) (Nat.le_of_eq (by simp))
                have hb19 := Below.alloc (hbR) (Below.size (hbR)) (.cells #[.int .u64 0, .int .u64 0] 75)
                refine hK.out _ _ (KA.out _ hb19) (fun hH19 => ?_)
                clear hK K hH
                have hH := hH19
                clear hH19
                try simp only [Act.put, List.getElem_toArray, List.getElem_cons_succ, List.getElem_cons_zero, List.setIfInBounds_toArray, List.set_cons_zero, List.set_cons_succ]
                refine wpAnyH_ready (rs := [7]) (by kernel_rfl) (by simp) ?_
                refine (AllReadyH.cons rfl (fun K hK => ?_) AllReadyH.nil)
                go_simp
                with_reducible refine (MF.out _).mono ?_
                rintro e w20 ⟨rfl, hb20'⟩
                have hb20 : Below (wy.heap.size) wy w20 := below_next hH.2 hb20'
                try go_wp2_with fail
                have Sb20 := Blk.next Sb19 hb20'
                have Sc200 : World.cell? w20 ⟨wy.heap.size, 0, none⟩ = some (.int .u64 0) := Blk.get Sb20 0 rfl
                have Sf200 : World.frozen? w20 ⟨wy.heap.size, 0, none⟩ = false := Blk.frozen Sb20 0
                have Sc201 : World.cell? w20 ⟨wy.heap.size, 1, none⟩ = some (.int .u64 0) := Blk.get Sb20 1 rfl
                have Sf201 : World.frozen? w20 ⟨wy.heap.size, 1, none⟩ = false := Blk.frozen Sb20 1
                have Sn20 := Blk.lt Sb20
                refine hK.out _ _ (KA.out _ hb20) (fun hH20 => ?_)
                clear hK K hH
                have hH := hH20
                clear hH20
                try simp only [Act.put, List.getElem_toArray, List.getElem_cons_succ, List.getElem_cons_zero, List.setIfInBounds_toArray, List.set_cons_zero, List.set_cons_succ]
                refine wpAnyH_ready (rs := [8]) (by kernel_rfl) (by simp) ?_
                refine (AllReadyH.cons rfl (fun K hK => ?_) AllReadyH.nil)
                go_simp
                with_reducible refine (PA.out _).mono ?_
                rintro e w21 ⟨rfl, hb21'⟩
                have hb21 : Below (wy.heap.size) wy w21 := below_next hH.2 hb21'
                try go_wp2_with fail
                have Sb21 := Blk.next Sb20 hb21'
                have Sc210 : World.cell? w21 ⟨wy.heap.size, 0, none⟩ = some (.int .u64 0) := Blk.get Sb21 0 rfl
                have Sf210 : World.frozen? w21 ⟨wy.heap.size, 0, none⟩ = false := Blk.frozen Sb21 0
                have Sc211 : World.cell? w21 ⟨wy.heap.size, 1, none⟩ = some (.int .u64 0) := Blk.get Sb21 1 rfl
                have Sf211 : World.frozen? w21 ⟨wy.heap.size, 1, none⟩ = false := Blk.frozen Sb21 1
                have Sn21 := Blk.lt Sb21
                refine hK.out _ _ (KA.out _ hb21) (fun hH21 => ?_)
                clear hK K hH
                have hH := hH21
                clear hH21
                try simp only [Act.put, List.getElem_toArray, List.getElem_cons_succ, List.getElem_cons_zero, List.setIfInBounds_toArray, List.set_cons_zero, List.set_cons_succ]
                first | (refine wpAnyH_take (i := 9) (v := undef) rfl ?_ ?_ ?_ (fun _ _ _ h => h) ?_ ?_ ?_; kernel_rfl; kernel_rfl; kernel_rfl; exact Or.inr ⟨by rfl, rfl⟩; exact hH) | (refine wpAnyH_take (i := 9) (v := ?_) rfl ?_ ?_ ?_ (fun _ _ _ h => h) ?_ ?_ ?_; rotate_left; kernel_rfl; kernel_rfl; kernel_rfl; (focus (refine Or.inl ⟨by rfl, ?_⟩; intro w' hSw; (try dsimp only at hSw); go_simp)); exact hH) | (refine wpAnyH_take (i := 9) (v := ?_) rfl ?_ ?_ ?_ (fun _ _ _ h => h) ?_ ?_ ?_; rotate_left; kernel_rfl; kernel_rfl; kernel_rfl; (focus (refine Or.inl ⟨by rfl, ?_⟩; intro w' hSw; (try dsimp only at hSw); go_simp; with_reducible rfl)); exact hH)
                try simp only [Act.put, List.getElem_toArray, List.getElem_cons_succ, List.getElem_cons_zero, List.setIfInBounds_toArray, List.set_cons_zero, List.set_cons_succ]
                first | (refine wpAnyH_take (i := 10) (v := undef) rfl ?_ ?_ ?_ (fun _ _ _ h => h) ?_ ?_ ?_; kernel_rfl; kernel_rfl; kernel_rfl; exact Or.inr ⟨by rfl, rfl⟩; exact hH) | (refine wpAnyH_take (i := 10) (v := ?_) rfl ?_ ?_ ?_ (fun _ _ _ h => h) ?_ ?_ ?_; rotate_left; kernel_rfl; kernel_rfl; kernel_rfl; (focus (refine Or.inl ⟨by rfl, ?_⟩; intro w' hSw; (try dsimp only at hSw); go_simp)); exact hH) | (refine wpAnyH_take (i := 10) (v := ?_) rfl ?_ ?_ ?_ (fun _ _ _ h => h) ?_ ?_ ?_; rotate_left; kernel_rfl; kernel_rfl; kernel_rfl; (focus (refine Or.inl ⟨by rfl, ?_⟩; intro w' hSw; (try dsimp only at hSw); go_simp; with_reducible rfl)); exact hH)
                try simp only [Act.put, List.getElem_toArray, List.getElem_cons_succ, List.getElem_cons_zero, List.setIfInBounds_toArray, List.set_cons_zero, List.set_cons_succ]
                first | (refine wpAnyH_take (i := 11) (v := undef) rfl ?_ ?_ ?_ (fun _ _ _ h => h) ?_ ?_ ?_; kernel_rfl; kernel_rfl; kernel_rfl; exact Or.inr ⟨by rfl, rfl⟩; exact hH) | (refine wpAnyH_take (i := 11) (v := ?_) rfl ?_ ?_ ?_ (fun _ _ _ h => h) ?_ ?_ ?_; rotate_left; kernel_rfl; kernel_rfl; kernel_rfl; (focus (refine Or.inl ⟨by rfl, ?_⟩; intro w' hSw; (try dsimp only at hSw); go_simp)); exact hH) | (refine wpAnyH_take (i := 11) (v := ?_) rfl ?_ ?_ ?_ (fun _ _ _ h => h) ?_ ?_ ?_; rotate_left; kernel_rfl; kernel_rfl; kernel_rfl; (focus (refine Or.inl ⟨by rfl, ?_⟩; intro w' hSw; (try dsimp only at hSw); go_simp; with_reducible rfl)); exact hH)
                try simp only [Act.put, List.getElem_toArray, List.getElem_cons_succ, List.getElem_cons_zero, List.setIfInBounds_toArray, List.set_cons_zero, List.set_cons_succ]
                refine wpAnyH_ready (rs := [13]) (by kernel_rfl) (by simp) ?_
                refine (AllReadyH.cons rfl (fun K hK => ?_) AllReadyH.nil)
                go_simp
                have Sb22 := (Blk.put (Blk.put Sb21 0 (.int .u64 ha)) 1 (.int .u64 la))
                have hb22 : Below (wy.heap.size) wy _ := (Below.setCell (p := ⟨wy.heap.size, 1, none⟩) (Below.setCell (p := ⟨wy.heap.size, 0, none⟩) hb21 (by show _ ≤ wy.heap.size; first | exact Nat.le_refl _ | exact hH.2.size | (simp only [World.size_alloc, World.size_drew] at *; omega)) (.int .u64 ha)) (by show _ ≤ wy.heap.size; first | exact Nat.le_refl _ | exact hH.2.size | (simp only [World.size_alloc, World.size_drew] at *; omega)) (.int .u64 la))
                refine hK.out _ _ (KA.out _ hb22) (fun hH22 => ?_)
                clear hK K hH
                have hH := hH22
                clear hH22
                try simp only [Act.put, List.getElem_toArray, List.getElem_cons_succ, List.getElem_cons_zero, List.setIfInBounds_toArray, List.set_cons_zero, List.set_cons_succ]
                first | (refine wpAnyH_take (i := 14) (v := undef) rfl ?_ ?_ ?_ (fun _ _ _ h => h) ?_ ?_ ?_; kernel_rfl; kernel_rfl; kernel_rfl; exact Or.inr ⟨by rfl, rfl⟩; exact hH) | (refine wpAnyH_take (i := 14) (v := ?_) rfl ?_ ?_ ?_ (fun _ _ _ h => h) ?_ ?_ ?_; rotate_left; kernel_rfl; kernel_rfl; kernel_rfl; (focus (refine Or.inl ⟨by rfl, ?_⟩; intro w' hSw; (try dsimp only at hSw); go_simp)); exact hH) | (refine wpAnyH_take (i := 14) (v := ?_) rfl ?_ ?_ ?_ (fun _ _ _ h => h) ?_ ?_ ?_; rotate_left; kernel_rfl; kernel_rfl; kernel_rfl; (focus (refine Or.inl ⟨by rfl, ?_⟩; intro w' hSw; (try dsimp only at hSw); go_simp; with_reducible rfl)); exact hH)
                try simp only [Act.put, List.getElem_toArray, List.getElem_cons_succ, List.getElem_cons_zero, List.setIfInBounds_toArray, List.set_cons_zero, List.set_cons_succ]
                refine wpAnyH_done (by kernel_rfl) ?_ _
                refine NoPanic.normal ?_
                go_wp2_with fail
                go_meet
                exact ⟨_, rfl, rfl, Sb22, QGS, hb22⟩
            case rest =>
              obtain ⟨qa, rfl, rfl, Ab, hqa, B10⟩ := hcut
              obtain ⟨wz, rfl⟩ : ∃ x : World, x = wc := ⟨_, rfl⟩
              have YZ := Blk.next HYB.out B10
              have QZ := Blk.next HQY.out B10
              have zy := Blk.lt HYB.out
              have HAB := Lib.hid Ab
              have HB10 := Lib.hid (below_next HB9.out B10)
              have hs9 := HB9.out.size
              have KB : Hid (∀ w', Below (wz.heap.size) wz w' → (w'.cell? ⟨qy, 0, none⟩ = some (.int .u64 0) ∧ w'.cell? ⟨qy, 1, none⟩ = some (.int .u64 y) ∧ w'.cell? ⟨q, 2, none⟩ = some (.int .u64 R)) ∧ Below (wz.heap.size) wz w') := fun w' hb => ⟨⟨((Blk.next YZ hb).get 0 rfl), ((Blk.next YZ hb).get 1 rfl), ((Blk.next QZ hb).get 2 rfl)⟩, hb⟩
              clear KA Ab YZ QZ B10 MF PA HYB HQY
              go_upto_region 11 with (fail)
              go_cut [12, 13] (fun av ev wc => ∃ qb, av = .pointer (some ⟨qb, 0, none⟩) ∧ ev = .int .i64 0 ∧ Blk wc qb 75 #[.int .u64 hb, .int .u64 lb] ∧ wz.heap.size ≤ qb ∧ Below wz.heap.size wz wc)
              case first =>
                refine wp_region_noPanic ?_
                refine wp_region_held_drew (S := fun w' => (w'.cell? ⟨qy, 0, none⟩ = some (.int .u64 0) ∧ w'.cell? ⟨qy, 1, none⟩ = some (.int .u64 y) ∧ w'.cell? ⟨q, 2, none⟩ = some (.int .u64 R)) ∧ Below (wz.heap.size) wz w') (by kernel_rfl) (KB.out _ (below_of_drew ((Below.refl wz.heap.size wz)))) (fun hH => ?_)
                have hbR := below_of_drew ((Below.refl wz.heap.size wz))
                first | (refine wpAnyH_take (i := 0) (v := undef) rfl ?_ ?_ ?_ (fun _ _ _ h => h) ?_ ?_ ?_; kernel_rfl; kernel_rfl; kernel_rfl; exact Or.inr ⟨by rfl, rfl⟩; exact hH) | (refine wpAnyH_take (i := 0) (v := ?_) rfl ?_ ?_ ?_ (fun _ _ _ h => h) ?_ ?_ ?_; rotate_left; kernel_rfl; kernel_rfl; kernel_rfl; (focus (refine Or.inl ⟨by rfl, ?_⟩; intro w' hSw; (try dsimp only at hSw); go_simp)); exact hH) | (refine wpAnyH_take (i := 0) (v := ?_) rfl ?_ ?_ ?_ (fun _ _ _ h => h) ?_ ?_ ?_; rotate_left; kernel_rfl; kernel_rfl; kernel_rfl; (focus (refine Or.inl ⟨by rfl, ?_⟩; intro w' hSw; (try dsimp only at hSw); go_simp; with_reducible rfl)); exact hH)
                try simp only [Act.put, List.getElem_toArray, List.getElem_cons_succ, List.getElem_cons_zero, List.setIfInBounds_toArray, List.set_cons_zero, List.set_cons_succ]
                first | (refine wpAnyH_take (i := 1) (v := undef) rfl ?_ ?_ ?_ (fun _ _ _ h => h) ?_ ?_ ?_; kernel_rfl; kernel_rfl; kernel_rfl; exact Or.inr ⟨by rfl, rfl⟩; exact hH) | (refine wpAnyH_take (i := 1) (v := ?_) rfl ?_ ?_ ?_ (fun _ _ _ h => h) ?_ ?_ ?_; rotate_left; kernel_rfl; kernel_rfl; kernel_rfl; (focus (refine Or.inl ⟨by rfl, ?_⟩; intro w' hSw; (try dsimp only at hSw); go_simp)); exact hH) | (refine wpAnyH_take (i := 1) (v := ?_) rfl ?_ ?_ ?_ (fun _ _ _ h => h) ?_ ?_ ?_; rotate_left; kernel_rfl; kernel_rfl; kernel_rfl; (focus (refine Or.inl ⟨by rfl, ?_⟩; intro w' hSw; (try dsimp only at hSw); go_simp; with_reducible rfl)); exact hH)
                try simp only [Act.put, List.getElem_toArray, List.getElem_cons_succ, List.getElem_cons_zero, List.setIfInBounds_toArray, List.set_cons_zero, List.set_cons_succ]
                first | (refine wpAnyH_take (i := 2) (v := undef) rfl ?_ ?_ ?_ (fun _ _ _ h => h) ?_ ?_ ?_; kernel_rfl; kernel_rfl; kernel_rfl; exact Or.inr ⟨by rfl, rfl⟩; exact hH) | (refine wpAnyH_take (i := 2) (v := ?_) rfl ?_ ?_ ?_ (fun _ _ _ h => h) ?_ ?_ ?_; rotate_left; kernel_rfl; kernel_rfl; kernel_rfl; (focus (refine Or.inl ⟨by rfl, ?_⟩; intro w' hSw; (try dsimp only at hSw); go_simp)); exact hH) | (refine wpAnyH_take (i := 2) (v := ?_) rfl ?_ ?_ ?_ (fun _ _ _ h => h) ?_ ?_ ?_; rotate_left; kernel_rfl; kernel_rfl; kernel_rfl; (focus (refine Or.inl ⟨by rfl, ?_⟩; intro w' hSw; (try dsimp only at hSw); go_simp; with_reducible rfl)); exact hH)
                try simp only [Act.put, List.getElem_toArray, List.getElem_cons_succ, List.getElem_cons_zero, List.setIfInBounds_toArray, List.set_cons_zero, List.set_cons_succ]
                first | (refine wpAnyH_take (i := 3) (v := undef) rfl ?_ ?_ ?_ (fun _ _ _ h => h) ?_ ?_ ?_; kernel_rfl; kernel_rfl; kernel_rfl; exact Or.inr ⟨by rfl, rfl⟩; exact hH) | (refine wpAnyH_take (i := 3) (v := ?_) rfl ?_ ?_ ?_ (fun _ _ _ h => h) ?_ ?_ ?_; rotate_left; kernel_rfl; kernel_rfl; kernel_rfl; (focus (refine Or.inl ⟨by rfl, ?_⟩; intro w' hSw; (try dsimp only at hSw); go_simp)); exact hH) | (refine wpAnyH_take (i := 3) (v := ?_) rfl ?_ ?_ ?_ (fun _ _ _ h => h) ?_ ?_ ?_; rotate_left; kernel_rfl; kernel_rfl; kernel_rfl; (focus (refine Or.inl ⟨by rfl, ?_⟩; intro w' hSw; (try dsimp only at hSw); go_simp; with_reducible rfl)); exact hH)
                try simp only [Act.put, List.getElem_toArray, List.getElem_cons_succ, List.getElem_cons_zero, List.setIfInBounds_toArray, List.set_cons_zero, List.set_cons_succ]
                first | (refine wpAnyH_take (i := 4) (v := undef) rfl ?_ ?_ ?_ (fun _ _ _ h => h) ?_ ?_ ?_; kernel_rfl; kernel_rfl; kernel_rfl; exact Or.inr ⟨by rfl, rfl⟩; exact hH) | (refine wpAnyH_take (i := 4) (v := ?_) rfl ?_ ?_ ?_ (fun _ _ _ h => h) ?_ ?_ ?_; rotate_left; kernel_rfl; kernel_rfl; kernel_rfl; (focus (refine Or.inl ⟨by rfl, ?_⟩; intro w' hSw; (try dsimp only at hSw); go_simp)); exact hH) | (refine wpAnyH_take (i := 4) (v := ?_) rfl ?_ ?_ ?_ (fun _ _ _ h => h) ?_ ?_ ?_; rotate_left; kernel_rfl; kernel_rfl; kernel_rfl; (focus (refine Or.inl ⟨by rfl, ?_⟩; intro w' hSw; (try dsimp only at hSw); go_simp; with_reducible rfl)); exact hH)
                try simp only [Act.put, List.getElem_toArray, List.getElem_cons_succ, List.getElem_cons_zero, List.setIfInBounds_toArray, List.set_cons_zero, List.set_cons_succ]
                first | (refine wpAnyH_take (i := 5) (v := undef) rfl ?_ ?_ ?_ (fun _ _ _ h => h) ?_ ?_ ?_; kernel_rfl; kernel_rfl; kernel_rfl; exact Or.inr ⟨by rfl, rfl⟩; exact hH) | (refine wpAnyH_take (i := 5) (v := ?_) rfl ?_ ?_ ?_ (fun _ _ _ h => h) ?_ ?_ ?_; rotate_left; kernel_rfl; kernel_rfl; kernel_rfl; (focus (refine Or.inl ⟨by rfl, ?_⟩; intro w' hSw; (try dsimp only at hSw); go_simp)); exact hH) | (refine wpAnyH_take (i := 5) (v := ?_) rfl ?_ ?_ ?_ (fun _ _ _ h => h) ?_ ?_ ?_; rotate_left; kernel_rfl; kernel_rfl; kernel_rfl; (focus (refine Or.inl ⟨by rfl, ?_⟩; intro w' hSw; (try dsimp only at hSw); go_simp; with_reducible rfl)); exact hH)
                try simp only [Act.put, List.getElem_toArray, List.getElem_cons_succ, List.getElem_cons_zero, List.setIfInBounds_toArray, List.set_cons_zero, List.set_cons_succ]
                first | (refine wpAnyH_take (i := 6) (v := undef) rfl ?_ ?_ ?_ (fun _ _ _ h => h) ?_ ?_ ?_; kernel_rfl; kernel_rfl; kernel_rfl; exact Or.inr ⟨by rfl, rfl⟩; exact hH) | (refine wpAnyH_take (i := 6) (v := ?_) rfl ?_ ?_ ?_ (fun _ _ _ h => h) ?_ ?_ ?_; rotate_left; kernel_rfl; kernel_rfl; kernel_rfl; (focus (refine Or.inl ⟨by rfl, ?_⟩; intro w' hSw; (try dsimp only at hSw); go_simp)); exact hH) | (refine wpAnyH_take (i := 6) (v := ?_) rfl ?_ ?_ ?_ (fun _ _ _ h => h) ?_ ?_ ?_; rotate_left; kernel_rfl; kernel_rfl; kernel_rfl; (focus (refine Or.inl ⟨by rfl, ?_⟩; intro w' hSw; (try dsimp only at hSw); go_simp; with_reducible rfl)); exact hH)
                try simp only [Act.put, List.getElem_toArray, List.getElem_cons_succ, List.getElem_cons_zero, List.setIfInBounds_toArray, List.set_cons_zero, List.set_cons_succ]
                refine wpAnyH_ready (rs := [7, 12]) (by kernel_rfl) (by simp) ?_
                refine (AllReadyH.cons rfl (fun K hK => ?_) (AllReadyH.cons rfl (fun K hK => ?_) AllReadyH.nil))
                · skip
                  go_simp
                  with_reducible refine (MR.out _).mono ?_
                  rintro e w23 ⟨rfl, hb23'⟩
                  have hb23 : Below (wz.heap.size) wz w23 := below_next hH.2 hb23'
                  try go_wp2_with fail
                  refine hK.out _ _ (KB.out _ hb23) (fun hH23 => ?_)
                  clear hK K hH
                  have hH := hH23
                  clear hH23
                  try simp only [Act.put, List.getElem_toArray, List.getElem_cons_succ, List.getElem_cons_zero, List.setIfInBounds_toArray, List.set_cons_zero, List.set_cons_succ]
                  refine wpAnyH_ready (rs := [8, 12]) (by kernel_rfl) (by simp) ?_
                  refine (AllReadyH.cons rfl (fun K hK => ?_) (AllReadyH.cons rfl (fun K hK => ?_) AllReadyH.nil))
                  · skip
                    go_simp
                    with_reducible refine (PB.out _).mono ?_
                    rintro e w24 ⟨rfl, hb24'⟩
                    have hb24 : Below (wz.heap.size) wz w24 := below_next hH.2 hb24'
                    try go_wp2_with fail
                    refine hK.out _ _ (KB.out _ hb24) (fun hH24 => ?_)
                    clear hK K hH
                    have hH := hH24
                    clear hH24
                    try simp only [Act.put, List.getElem_toArray, List.getElem_cons_succ, List.getElem_cons_zero, List.setIfInBounds_toArray, List.set_cons_zero, List.set_cons_succ]
                    first | (refine wpAnyH_take (i := 9) (v := undef) rfl ?_ ?_ ?_ (fun _ _ _ h => h) ?_ ?_ ?_; kernel_rfl; kernel_rfl; kernel_rfl; exact Or.inr ⟨by rfl, rfl⟩; exact hH) | (refine wpAnyH_take (i := 9) (v := ?_) rfl ?_ ?_ ?_ (fun _ _ _ h => h) ?_ ?_ ?_; rotate_left; kernel_rfl; kernel_rfl; kernel_rfl; (focus (refine Or.inl ⟨by rfl, ?_⟩; intro w' hSw; (try dsimp only at hSw); go_simp)); exact hH) | (refine wpAnyH_take (i := 9) (v := ?_) rfl ?_ ?_ ?_ (fun _ _ _ h => h) ?_ ?_ ?_; rotate_left; kernel_rfl; kernel_rfl; kernel_rfl; (focus (refine Or.inl ⟨by rfl, ?_⟩; intro w' hSw; (try dsimp only at hSw); go_simp; with_reducible rfl)); exact hH)
                    try simp only [Act.put, List.getElem_toArray, List.getElem_cons_succ, List.getElem_cons_zero, List.setIfInBounds_toArray, List.set_cons_zero, List.set_cons_succ]
                    first | (refine wpAnyH_take (i := 10) (v := undef) rfl ?_ ?_ ?_ (fun _ _ _ h => h) ?_ ?_ ?_; kernel_rfl; kernel_rfl; kernel_rfl; exact Or.inr ⟨by rfl, rfl⟩; exact hH) | (refine wpAnyH_take (i := 10) (v := ?_) rfl ?_ ?_ ?_ (fun _ _ _ h => h) ?_ ?_ ?_; rotate_left; kernel_rfl; kernel_rfl; kernel_rfl; (focus (refine Or.inl ⟨by rfl, ?_⟩; intro w' hSw; (try dsimp only at hSw); go_simp)); exact hH) | (refine wpAnyH_take (i := 10) (v := ?_) rfl ?_ ?_ ?_ (fun _ _ _ h => h) ?_ ?_ ?_; rotate_left; kernel_rfl; kernel_rfl; kernel_rfl; (focus (refine Or.inl ⟨by rfl, ?_⟩; intro w' hSw; (try dsimp only at hSw); go_simp; with_reducible rfl)); exact hH)
                    try simp only [Act.put, List.getElem_toArray, List.getElem_cons_succ, List.getElem_cons_zero, List.setIfInBounds_toArray, List.set_cons_zero, List.set_cons_succ]
                    first | (refine wpAnyH_take (i := 11) (v := undef) rfl ?_ ?_ ?_ (fun _ _ _ h => h) ?_ ?_ ?_; kernel_rfl; kernel_rfl; kernel_rfl; exact Or.inr ⟨by rfl, rfl⟩; exact hH) | (refine wpAnyH_take (i := 11) (v := ?_) rfl ?_ ?_ ?_ (fun _ _ _ h => h) ?_ ?_ ?_; rotate_left; kernel_rfl; kernel_rfl; kernel_rfl; (focus (refine Or.inl ⟨by rfl, ?_⟩; intro w' hSw; (try dsimp only at hSw); go_simp)); exact hH) | (refine wpAnyH_take (i := 11) (v := ?_) rfl ?_ ?_ ?_ (fun _ _ _ h => h) ?_ ?_ ?_; rotate_left; kernel_rfl; kernel_rfl; kernel_rfl; (focus (refine Or.inl ⟨by rfl, ?_⟩; intro w' hSw; (try dsimp only at hSw); go_simp; with_reducible rfl)); exact hH)
                    try simp only [Act.put, List.getElem_toArray, List.getElem_cons_succ, List.getElem_cons_zero, List.setIfInBounds_toArray, List.set_cons_zero, List.set_cons_succ]
                    refine wpAnyH_ready (rs := [12]) (by kernel_rfl) (by simp) ?_
                    refine (AllReadyH.cons rfl (fun K hK => ?_) AllReadyH.nil)
                    go_simp
                    have Sb25 : Blk (w24.alloc (.cells #[.int .u64 0, .int .u64 0] 75)) (w24.heap.size) 75 #[.int .u64 0, .int .u64 0] := Blk.new_at (by simp)
                    have QGS : wz.heap.size ≤ w24.heap.size := Nat.le_trans (Below.size (hb24)) (Nat.le_of_eq (by simp))
                    have hb25 := Below.alloc (hb24) (Below.size (hb24)) (.cells #[.int .u64 0, .int .u64 0] 75)
                    refine hK.out _ _ (KB.out _ hb25) (fun hH25 => ?_)
                    clear hK K hH
                    have hH := hH25
                    clear hH25
                    try simp only [Act.put, List.getElem_toArray, List.getElem_cons_succ, List.getElem_cons_zero, List.setIfInBounds_toArray, List.set_cons_zero, List.set_cons_succ]
                    refine wpAnyH_ready (rs := [13]) (by kernel_rfl) (by simp) ?_
                    refine (AllReadyH.cons rfl (fun K hK => ?_) AllReadyH.nil)
                    go_simp
                    have Sb26 : Blk (w24.alloc (.cells #[.int .u64 hb, .int .u64 lb] 75)) (w24.heap.size) 75 #[.int .u64 hb, .int .u64 lb] := Blk.new_at (by simp)
                    have hb26 := Below.alloc (hb24) (Below.size (hb24)) (.cells #[.int .u64 hb, .int .u64 lb] 75)
                    refine hK.out _ _ (KB.out _ hb26) (fun hH26 => ?_)
                    clear hK K hH
                    have hH := hH26
                    clear hH26
                    try simp only [Act.put, List.getElem_toArray, List.getElem_cons_succ, List.getElem_cons_zero, List.setIfInBounds_toArray, List.set_cons_zero, List.set_cons_succ]
                    first | (refine wpAnyH_take (i := 14) (v := undef) rfl ?_ ?_ ?_ (fun _ _ _ h => h) ?_ ?_ ?_; kernel_rfl; kernel_rfl; kernel_rfl; exact Or.inr ⟨by rfl, rfl⟩; exact hH) | (refine wpAnyH_take (i := 14) (v := ?_) rfl ?_ ?_ ?_ (fun _ _ _ h => h) ?_ ?_ ?_; rotate_left; kernel_rfl; kernel_rfl; kernel_rfl; (focus (refine Or.inl ⟨by rfl, ?_⟩; intro w' hSw; (try dsimp only at hSw); go_simp)); exact hH) | (refine wpAnyH_take (i := 14) (v := ?_) rfl ?_ ?_ ?_ (fun _ _ _ h => h) ?_ ?_ ?_; rotate_left; kernel_rfl; kernel_rfl; kernel_rfl; (focus (refine Or.inl ⟨by rfl, ?_⟩; intro w' hSw; (try dsimp only at hSw); go_simp; with_reducible rfl)); exact hH)
                    try simp only [Act.put, List.getElem_toArray, List.getElem_cons_succ, List.getElem_cons_zero, List.setIfInBounds_toArray, List.set_cons_zero, List.set_cons_succ]
                    refine wpAnyH_done (by kernel_rfl) ?_ _
                    refine NoPanic.normal ?_
                    go_wp2_with fail
                    go_meet
                    exact ⟨_, rfl, rfl, Sb26, QGS, hb26⟩
                  · skip
                    go_simp
                    have Sb27 : Blk (w23.alloc (.cells #[.int .u64 0, .int .u64 0] 75)) (w23.heap.size) 75 #[.int .u64 0, .int .u64 0] := Blk.new_at (by simp)
                    have QGS : wz.heap.size ≤ w23.heap.size := Nat.le_trans (Below.size (hb23)) (Nat.le_of_eq (by simp))
                    have hb27 := Below.alloc (hb23) (Below.size (hb23)) (.cells #[.int .u64 0, .int .u64 0] 75)
                    refine hK.out _ _ (KB.out _ hb27) (fun hH27 => ?_)
                    clear hK K hH
                    have hH := hH27
                    clear hH27
                    try simp only [Act.put, List.getElem_toArray, List.getElem_cons_succ, List.getElem_cons_zero, List.setIfInBounds_toArray, List.set_cons_zero, List.set_cons_succ]
                    refine wpAnyH_ready (rs := [8]) (by kernel_rfl) (by simp) ?_
                    refine (AllReadyH.cons rfl (fun K hK => ?_) AllReadyH.nil)
                    go_simp
                    with_reducible refine (PB.out _).mono ?_
                    rintro e w28 ⟨rfl, hb28'⟩
                    have hb28 : Below (wz.heap.size) wz w28 := below_next hH.2 hb28'
                    try go_wp2_with fail
                    have Sb28 := Blk.next Sb27 hb28'
                    have Sc280 : World.cell? w28 ⟨w23.heap.size, 0, none⟩ = some (.int .u64 0) := Blk.get Sb28 0 rfl
                    have Sf280 : World.frozen? w28 ⟨w23.heap.size, 0, none⟩ = false := Blk.frozen Sb28 0
                    have Sc281 : World.cell? w28 ⟨w23.heap.size, 1, none⟩ = some (.int .u64 0) := Blk.get Sb28 1 rfl
                    have Sf281 : World.frozen? w28 ⟨w23.heap.size, 1, none⟩ = false := Blk.frozen Sb28 1
                    have Sn28 := Blk.lt Sb28
                    refine hK.out _ _ (KB.out _ hb28) (fun hH28 => ?_)
                    clear hK K hH
                    have hH := hH28
                    clear hH28
                    try simp only [Act.put, List.getElem_toArray, List.getElem_cons_succ, List.getElem_cons_zero, List.setIfInBounds_toArray, List.set_cons_zero, List.set_cons_succ]
                    first | (refine wpAnyH_take (i := 9) (v := undef) rfl ?_ ?_ ?_ (fun _ _ _ h => h) ?_ ?_ ?_; kernel_rfl; kernel_rfl; kernel_rfl; exact Or.inr ⟨by rfl, rfl⟩; exact hH) | (refine wpAnyH_take (i := 9) (v := ?_) rfl ?_ ?_ ?_ (fun _ _ _ h => h) ?_ ?_ ?_; rotate_left; kernel_rfl; kernel_rfl; kernel_rfl; (focus (refine Or.inl ⟨by rfl, ?_⟩; intro w' hSw; (try dsimp only at hSw); go_simp)); exact hH) | (refine wpAnyH_take (i := 9) (v := ?_) rfl ?_ ?_ ?_ (fun _ _ _ h => h) ?_ ?_ ?_; rotate_left; kernel_rfl; kernel_rfl; kernel_rfl; (focus (refine Or.inl ⟨by rfl, ?_⟩; intro w' hSw; (try dsimp only at hSw); go_simp; with_reducible rfl)); exact hH)
                    try simp only [Act.put, List.getElem_toArray, List.getElem_cons_succ, List.getElem_cons_zero, List.setIfInBounds_toArray, List.set_cons_zero, List.set_cons_succ]
                    first | (refine wpAnyH_take (i := 10) (v := undef) rfl ?_ ?_ ?_ (fun _ _ _ h => h) ?_ ?_ ?_; kernel_rfl; kernel_rfl; kernel_rfl; exact Or.inr ⟨by rfl, rfl⟩; exact hH) | (refine wpAnyH_take (i := 10) (v := ?_) rfl ?_ ?_ ?_ (fun _ _ _ h => h) ?_ ?_ ?_; rotate_left; kernel_rfl; kernel_rfl; kernel_rfl; (focus (refine Or.inl ⟨by rfl, ?_⟩; intro w' hSw; (try dsimp only at hSw); go_simp)); exact hH) | (refine wpAnyH_take (i := 10) (v := ?_) rfl ?_ ?_ ?_ (fun _ _ _ h => h) ?_ ?_ ?_; rotate_left; kernel_rfl; kernel_rfl; kernel_rfl; (focus (refine Or.inl ⟨by rfl, ?_⟩; intro w' hSw; (try dsimp only at hSw); go_simp; with_reducible rfl)); exact hH)
                    try simp only [Act.put, List.getElem_toArray, List.getElem_cons_succ, List.getElem_cons_zero, List.setIfInBounds_toArray, List.set_cons_zero, List.set_cons_succ]
                    first | (refine wpAnyH_take (i := 11) (v := undef) rfl ?_ ?_ ?_ (fun _ _ _ h => h) ?_ ?_ ?_; kernel_rfl; kernel_rfl; kernel_rfl; exact Or.inr ⟨by rfl, rfl⟩; exact hH) | (refine wpAnyH_take (i := 11) (v := ?_) rfl ?_ ?_ ?_ (fun _ _ _ h => h) ?_ ?_ ?_; rotate_left; kernel_rfl; kernel_rfl; kernel_rfl; (focus (refine Or.inl ⟨by rfl, ?_⟩; intro w' hSw; (try dsimp only at hSw); go_simp)); exact hH) | (refine wpAnyH_take (i := 11) (v := ?_) rfl ?_ ?_ ?_ (fun _ _ _ h => h) ?_ ?_ ?_; rotate_left; kernel_rfl; kernel_rfl; kernel_rfl; (focus (refine Or.inl ⟨by rfl, ?_⟩; intro w' hSw; (try dsimp only at hSw); go_simp; with_reducible rfl)); exact hH)
                    try simp only [Act.put, List.getElem_toArray, List.getElem_cons_succ, List.getElem_cons_zero, List.setIfInBounds_toArray, List.set_cons_zero, List.set_cons_succ]
                    refine wpAnyH_ready (rs := [13]) (by kernel_rfl) (by simp) ?_
                    refine (AllReadyH.cons rfl (fun K hK => ?_) AllReadyH.nil)
                    go_simp
                    have Sb29 := (Blk.put (Blk.put Sb28 0 (.int .u64 hb)) 1 (.int .u64 lb))
                    have hb29 : Below (wz.heap.size) wz _ := (Below.setCell (p := ⟨w23.heap.size, 1, none⟩) (Below.setCell (p := ⟨w23.heap.size, 0, none⟩) hb28 (by show _ ≤ w23.heap.size; first | exact Nat.le_refl _ | exact hH.2.size | (simp only [World.size_alloc, World.size_drew] at *; omega)) (.int .u64 hb)) (by show _ ≤ w23.heap.size; first | exact Nat.le_refl _ | exact hH.2.size | (simp only [World.size_alloc, World.size_drew] at *; omega)) (.int .u64 lb))
                    refine hK.out _ _ (KB.out _ hb29) (fun hH29 => ?_)
                    clear hK K hH
                    have hH := hH29
                    clear hH29
                    try simp only [Act.put, List.getElem_toArray, List.getElem_cons_succ, List.getElem_cons_zero, List.setIfInBounds_toArray, List.set_cons_zero, List.set_cons_succ]
                    first | (refine wpAnyH_take (i := 14) (v := undef) rfl ?_ ?_ ?_ (fun _ _ _ h => h) ?_ ?_ ?_; kernel_rfl; kernel_rfl; kernel_rfl; exact Or.inr ⟨by rfl, rfl⟩; exact hH) | (refine wpAnyH_take (i := 14) (v := ?_) rfl ?_ ?_ ?_ (fun _ _ _ h => h) ?_ ?_ ?_; rotate_left; kernel_rfl; kernel_rfl; kernel_rfl; (focus (refine Or.inl ⟨by rfl, ?_⟩; intro w' hSw; (try dsimp only at hSw); go_simp)); exact hH) | (refine wpAnyH_take (i := 14) (v := ?_) rfl ?_ ?_ ?_ (fun _ _ _ h => h) ?_ ?_ ?_; rotate_left; kernel_rfl; kernel_rfl; kernel_rfl; (focus (refine Or.inl ⟨by rfl, ?_⟩; intro w' hSw; (try dsimp only at hSw); go_simp; with_reducible rfl)); exact hH)
                    try simp only [Act.put, List.getElem_toArray, List.getElem_cons_succ, List.getElem_cons_zero, List.setIfInBounds_toArray, List.set_cons_zero, List.set_cons_succ]
                    refine wpAnyH_done (by kernel_rfl) ?_ _
                    refine NoPanic.normal ?_
                    go_wp2_with fail
                    go_meet
                    exact ⟨_, rfl, rfl, Sb29, QGS, hb29⟩
                · skip
                  go_simp
                  have Sb30 : Blk (wz.drew.alloc (.cells #[.int .u64 0, .int .u64 0] 75)) (wz.heap.size) 75 #[.int .u64 0, .int .u64 0] := Blk.new_at (by simp)
                  have QGS : wz.heap.size ≤ wz.heap.size := Nat.le_trans (Below.size (hbR)) (Nat.le_of_eq (by simp))
                  have hb30 := Below.alloc (hbR) (Below.size (hbR)) (.cells #[.int .u64 0, .int .u64 0] 75)
                  refine hK.out _ _ (KB.out _ hb30) (fun hH30 => ?_)
                  clear hK K hH
                  have hH := hH30
                  clear hH30
                  try simp only [Act.put, List.getElem_toArray, List.getElem_cons_succ, List.getElem_cons_zero, List.setIfInBounds_toArray, List.set_cons_zero, List.set_cons_succ]
                  refine wpAnyH_ready (rs := [7]) (by kernel_rfl) (by simp) ?_
                  refine (AllReadyH.cons rfl (fun K hK => ?_) AllReadyH.nil)
                  go_simp
                  with_reducible refine (MR.out _).mono ?_
                  rintro e w31 ⟨rfl, hb31'⟩
                  have hb31 : Below (wz.heap.size) wz w31 := below_next hH.2 hb31'
                  try go_wp2_with fail
                  have Sb31 := Blk.next Sb30 hb31'
                  have Sc310 : World.cell? w31 ⟨wz.heap.size, 0, none⟩ = some (.int .u64 0) := Blk.get Sb31 0 rfl
                  have Sf310 : World.frozen? w31 ⟨wz.heap.size, 0, none⟩ = false := Blk.frozen Sb31 0
                  have Sc311 : World.cell? w31 ⟨wz.heap.size, 1, none⟩ = some (.int .u64 0) := Blk.get Sb31 1 rfl
                  have Sf311 : World.frozen? w31 ⟨wz.heap.size, 1, none⟩ = false := Blk.frozen Sb31 1
                  have Sn31 := Blk.lt Sb31
                  refine hK.out _ _ (KB.out _ hb31) (fun hH31 => ?_)
                  clear hK K hH
                  have hH := hH31
                  clear hH31
                  try simp only [Act.put, List.getElem_toArray, List.getElem_cons_succ, List.getElem_cons_zero, List.setIfInBounds_toArray, List.set_cons_zero, List.set_cons_succ]
                  refine wpAnyH_ready (rs := [8]) (by kernel_rfl) (by simp) ?_
                  refine (AllReadyH.cons rfl (fun K hK => ?_) AllReadyH.nil)
                  go_simp
                  with_reducible refine (PB.out _).mono ?_
                  rintro e w32 ⟨rfl, hb32'⟩
                  have hb32 : Below (wz.heap.size) wz w32 := below_next hH.2 hb32'
                  try go_wp2_with fail
                  have Sb32 := Blk.next Sb31 hb32'
                  have Sc320 : World.cell? w32 ⟨wz.heap.size, 0, none⟩ = some (.int .u64 0) := Blk.get Sb32 0 rfl
                  have Sf320 : World.frozen? w32 ⟨wz.heap.size, 0, none⟩ = false := Blk.frozen Sb32 0
                  have Sc321 : World.cell? w32 ⟨wz.heap.size, 1, none⟩ = some (.int .u64 0) := Blk.get Sb32 1 rfl
                  have Sf321 : World.frozen? w32 ⟨wz.heap.size, 1, none⟩ = false := Blk.frozen Sb32 1
                  have Sn32 := Blk.lt Sb32
                  refine hK.out _ _ (KB.out _ hb32) (fun hH32 => ?_)
                  clear hK K hH
                  have hH := hH32
                  clear hH32
                  try simp only [Act.put, List.getElem_toArray, List.getElem_cons_succ, List.getElem_cons_zero, List.setIfInBounds_toArray, List.set_cons_zero, List.set_cons_succ]
                  first | (refine wpAnyH_take (i := 9) (v := undef) rfl ?_ ?_ ?_ (fun _ _ _ h => h) ?_ ?_ ?_; kernel_rfl; kernel_rfl; kernel_rfl; exact Or.inr ⟨by rfl, rfl⟩; exact hH) | (refine wpAnyH_take (i := 9) (v := ?_) rfl ?_ ?_ ?_ (fun _ _ _ h => h) ?_ ?_ ?_; rotate_left; kernel_rfl; kernel_rfl; kernel_rfl; (focus (refine Or.inl ⟨by rfl, ?_⟩; intro w' hSw; (try dsimp only at hSw); go_simp)); exact hH) | (refine wpAnyH_take (i := 9) (v := ?_) rfl ?_ ?_ ?_ (fun _ _ _ h => h) ?_ ?_ ?_; rotate_left; kernel_rfl; kernel_rfl; kernel_rfl; (focus (refine Or.inl ⟨by rfl, ?_⟩; intro w' hSw; (try dsimp only at hSw); go_simp; with_reducible rfl)); exact hH)
                  try simp only [Act.put, List.getElem_toArray, List.getElem_cons_succ, List.getElem_cons_zero, List.setIfInBounds_toArray, List.set_cons_zero, List.set_cons_succ]
                  first | (refine wpAnyH_take (i := 10) (v := undef) rfl ?_ ?_ ?_ (fun _ _ _ h => h) ?_ ?_ ?_; kernel_rfl; kernel_rfl; kernel_rfl; exact Or.inr ⟨by rfl, rfl⟩; exact hH) | (refine wpAnyH_take (i := 10) (v := ?_) rfl ?_ ?_ ?_ (fun _ _ _ h => h) ?_ ?_ ?_; rotate_left; kernel_rfl; kernel_rfl; kernel_rfl; (focus (refine Or.inl ⟨by rfl, ?_⟩; intro w' hSw; (try dsimp only at hSw); go_simp)); exact hH) | (refine wpAnyH_take (i := 10) (v := ?_) rfl ?_ ?_ ?_ (fun _ _ _ h => h) ?_ ?_ ?_; rotate_left; kernel_rfl; kernel_rfl; kernel_rfl; (focus (refine Or.inl ⟨by rfl, ?_⟩; intro w' hSw; (try dsimp only at hSw); go_simp; with_reducible rfl)); exact hH)
                  try simp only [Act.put, List.getElem_toArray, List.getElem_cons_succ, List.getElem_cons_zero, List.setIfInBounds_toArray, List.set_cons_zero, List.set_cons_succ]
                  first | (refine wpAnyH_take (i := 11) (v := undef) rfl ?_ ?_ ?_ (fun _ _ _ h => h) ?_ ?_ ?_; kernel_rfl; kernel_rfl; kernel_rfl; exact Or.inr ⟨by rfl, rfl⟩; exact hH) | (refine wpAnyH_take (i := 11) (v := ?_) rfl ?_ ?_ ?_ (fun _ _ _ h => h) ?_ ?_ ?_; rotate_left; kernel_rfl; kernel_rfl; kernel_rfl; (focus (refine Or.inl ⟨by rfl, ?_⟩; intro w' hSw; (try dsimp only at hSw); go_simp)); exact hH) | (refine wpAnyH_take (i := 11) (v := ?_) rfl ?_ ?_ ?_ (fun _ _ _ h => h) ?_ ?_ ?_; rotate_left; kernel_rfl; kernel_rfl; kernel_rfl; (focus (refine Or.inl ⟨by rfl, ?_⟩; intro w' hSw; (try dsimp only at hSw); go_simp; with_reducible rfl)); exact hH)
                  try simp only [Act.put, List.getElem_toArray, List.getElem_cons_succ, List.getElem_cons_zero, List.setIfInBounds_toArray, List.set_cons_zero, List.set_cons_succ]
                  refine wpAnyH_ready (rs := [13]) (by kernel_rfl) (by simp) ?_
                  refine (AllReadyH.cons rfl (fun K hK => ?_) AllReadyH.nil)
                  go_simp
                  have Sb33 := (Blk.put (Blk.put Sb32 0 (.int .u64 hb)) 1 (.int .u64 lb))
                  have hb33 : Below (wz.heap.size) wz _ := (Below.setCell (p := ⟨wz.heap.size, 1, none⟩) (Below.setCell (p := ⟨wz.heap.size, 0, none⟩) hb32 (by show _ ≤ wz.heap.size; first | exact Nat.le_refl _ | exact hH.2.size | (simp only [World.size_alloc, World.size_drew] at *; omega)) (.int .u64 hb)) (by show _ ≤ wz.heap.size; first | exact Nat.le_refl _ | exact hH.2.size | (simp only [World.size_alloc, World.size_drew] at *; omega)) (.int .u64 lb))
                  refine hK.out _ _ (KB.out _ hb33) (fun hH33 => ?_)
                  clear hK K hH
                  have hH := hH33
                  clear hH33
                  try simp only [Act.put, List.getElem_toArray, List.getElem_cons_succ, List.getElem_cons_zero, List.setIfInBounds_toArray, List.set_cons_zero, List.set_cons_succ]
                  first | (refine wpAnyH_take (i := 14) (v := undef) rfl ?_ ?_ ?_ (fun _ _ _ h => h) ?_ ?_ ?_; kernel_rfl; kernel_rfl; kernel_rfl; exact Or.inr ⟨by rfl, rfl⟩; exact hH) | (refine wpAnyH_take (i := 14) (v := ?_) rfl ?_ ?_ ?_ (fun _ _ _ h => h) ?_ ?_ ?_; rotate_left; kernel_rfl; kernel_rfl; kernel_rfl; (focus (refine Or.inl ⟨by rfl, ?_⟩; intro w' hSw; (try dsimp only at hSw); go_simp)); exact hH) | (refine wpAnyH_take (i := 14) (v := ?_) rfl ?_ ?_ ?_ (fun _ _ _ h => h) ?_ ?_ ?_; rotate_left; kernel_rfl; kernel_rfl; kernel_rfl; (focus (refine Or.inl ⟨by rfl, ?_⟩; intro w' hSw; (try dsimp only at hSw); go_simp; with_reducible rfl)); exact hH)
                  try simp only [Act.put, List.getElem_toArray, List.getElem_cons_succ, List.getElem_cons_zero, List.setIfInBounds_toArray, List.set_cons_zero, List.set_cons_succ]
                  refine wpAnyH_done (by kernel_rfl) ?_ _
                  refine NoPanic.normal ?_
                  go_wp2_with fail
                  go_meet
                  exact ⟨_, rfl, rfl, Sb33, QGS, hb33⟩
              case rest =>
                obtain ⟨qb, rfl, rfl, Bb, hqb, B11⟩ := hcut
                obtain ⟨wv, rfl⟩ : ∃ x : World, x = wc := ⟨_, rfl⟩
                have za := Blk.lt HAB.out
                have HBB := Lib.hid Bb
                have HAB2 := Lib.hid (HAB.out.next B11)
                have HB11 := Lib.hid (below_next HB10.out B11)
                have HF2 := Lib.hid (HF.out.next HB11.out)
                have HR2 := Lib.hid (HR.out.next HB11.out)
                have HO2 := Lib.hid (HO.out.next HB11.out)
                have zo := Blk.lt HO.out
                have zq1 : w.heap.size + 1 < qa := by omega
                have zq2 : qa < qb := by omega
                have zq3 : qo < qa := by omega
                clear KB HF HR HO HAB HB10 HB9 Bb B11 MR PB hqy hqa hqb za zy hs9 zo HQw
                have BBb : Blk wv (qb) 75 #[.int .u64 hb, .int .u64 lb] := HBB.out
                have BBc0 : World.cell? wv ⟨qb, 0, none⟩ = some (.int .u64 hb) := BBb.get 0 rfl
                have BBf0 := Blk.frozen BBb 0
                have BBc1 : World.cell? wv ⟨qb, 1, none⟩ = some (.int .u64 lb) := BBb.get 1 rfl
                have BBf1 := Blk.frozen BBb 1
                have BBn := Blk.lt BBb
                have OBb : Blk wv (qo) 75 #[.int .u64 ho, .int .u64 lo] := HO2.out
                have OBc0 : World.cell? wv ⟨qo, 0, none⟩ = some (.int .u64 ho) := OBb.get 0 rfl
                have OBf0 := Blk.frozen OBb 0
                have OBc1 : World.cell? wv ⟨qo, 1, none⟩ = some (.int .u64 lo) := OBb.get 1 rfl
                have OBf1 := Blk.frozen OBb 1
                have OBn := Blk.lt OBb
                have ABb : Blk wv (qa) 75 #[.int .u64 ha, .int .u64 la] := HAB2.out
                have ABc0 : World.cell? wv ⟨qa, 0, none⟩ = some (.int .u64 ha) := ABb.get 0 rfl
                have ABf0 := Blk.frozen ABb 0
                have ABc1 : World.cell? wv ⟨qa, 1, none⟩ = some (.int .u64 la) := ABb.get 1 rfl
                have ABf1 := Blk.frozen ABb 1
                have ABn := Blk.lt ABb
                have FBb : Blk wv (w.heap.size) 75 #[.int .u64 hF, .int .u64 lF] := HF2.out
                have FBc0 : World.cell? wv ⟨w.heap.size, 0, none⟩ = some (.int .u64 hF) := FBb.get 0 rfl
                have FBf0 := Blk.frozen FBb 0
                have FBc1 : World.cell? wv ⟨w.heap.size, 1, none⟩ = some (.int .u64 lF) := FBb.get 1 rfl
                have FBf1 := Blk.frozen FBb 1
                have FBn := Blk.lt FBb
                have RBb : Blk wv (w.heap.size + 1) 75 #[.int .u64 hR, .int .u64 lR] := HR2.out
                have RBc0 : World.cell? wv ⟨w.heap.size + 1, 0, none⟩ = some (.int .u64 hR) := RBb.get 0 rfl
                have RBf0 := Blk.frozen RBb 0
                have RBc1 : World.cell? wv ⟨w.heap.size + 1, 1, none⟩ = some (.int .u64 lR) := RBb.get 1 rfl
                have RBf1 := Blk.frozen RBb 1
                have RBn := Blk.lt RBb
                have B20 : Below wv.heap.size wv wv := Below.refl _ _
                clear HBB HO2 HAB2 HF2 HR2
                go_wp2_with fail
                with_reducible refine (PC.out _).mono ?_
                rintro e w21 ⟨rfl, hb21⟩
                have BBm : Blk w21 (qb) 75 #[.int .u64 hb, .int .u64 lb] := Blk.next (by repeat (first | (with_reducible exact BBb) | (refine Blk.new_at ?_; simp only [World.size_alloc]; done) | (with_reducible refine Blk.alloc ?_ _) | (with_reducible refine Blk.drewN ?_ _))) hb21
                clear BBn BBb BBc0 BBf0 BBc1 BBf1
                have BBb := BBm
                clear BBm
                have BBc0 : World.cell? w21 ⟨qb, 0, none⟩ = some (.int .u64 hb) := BBb.get 0 rfl
                have BBf0 := Blk.frozen BBb 0
                have BBc1 : World.cell? w21 ⟨qb, 1, none⟩ = some (.int .u64 lb) := BBb.get 1 rfl
                have BBf1 := Blk.frozen BBb 1
                have BBn := Blk.lt BBb
                have OBm : Blk w21 (qo) 75 #[.int .u64 ho, .int .u64 lo] := Blk.next (by repeat (first | (with_reducible exact OBb) | (refine Blk.new_at ?_; simp only [World.size_alloc]; done) | (with_reducible refine Blk.alloc ?_ _) | (with_reducible refine Blk.drewN ?_ _))) hb21
                clear OBn OBb OBc0 OBf0 OBc1 OBf1
                have OBb := OBm
                clear OBm
                have OBc0 : World.cell? w21 ⟨qo, 0, none⟩ = some (.int .u64 ho) := OBb.get 0 rfl
                have OBf0 := Blk.frozen OBb 0
                have OBc1 : World.cell? w21 ⟨qo, 1, none⟩ = some (.int .u64 lo) := OBb.get 1 rfl
                have OBf1 := Blk.frozen OBb 1
                have OBn := Blk.lt OBb
                have ABm : Blk w21 (qa) 75 #[.int .u64 ha, .int .u64 la] := Blk.next (by repeat (first | (with_reducible exact ABb) | (refine Blk.new_at ?_; simp only [World.size_alloc]; done) | (with_reducible refine Blk.alloc ?_ _) | (with_reducible refine Blk.drewN ?_ _))) hb21
                clear ABn ABb ABc0 ABf0 ABc1 ABf1
                have ABb := ABm
                clear ABm
                have ABc0 : World.cell? w21 ⟨qa, 0, none⟩ = some (.int .u64 ha) := ABb.get 0 rfl
                have ABf0 := Blk.frozen ABb 0
                have ABc1 : World.cell? w21 ⟨qa, 1, none⟩ = some (.int .u64 la) := ABb.get 1 rfl
                have ABf1 := Blk.frozen ABb 1
                have ABn := Blk.lt ABb
                have FBm : Blk w21 (w.heap.size) 75 #[.int .u64 hF, .int .u64 lF] := Blk.next (by repeat (first | (with_reducible exact FBb) | (refine Blk.new_at ?_; simp only [World.size_alloc]; done) | (with_reducible refine Blk.alloc ?_ _) | (with_reducible refine Blk.drewN ?_ _))) hb21
                clear FBn FBb FBc0 FBf0 FBc1 FBf1
                have FBb := FBm
                clear FBm
                have FBc0 : World.cell? w21 ⟨w.heap.size, 0, none⟩ = some (.int .u64 hF) := FBb.get 0 rfl
                have FBf0 := Blk.frozen FBb 0
                have FBc1 : World.cell? w21 ⟨w.heap.size, 1, none⟩ = some (.int .u64 lF) := FBb.get 1 rfl
                have FBf1 := Blk.frozen FBb 1
                have FBn := Blk.lt FBb
                have RBm : Blk w21 (w.heap.size + 1) 75 #[.int .u64 hR, .int .u64 lR] := Blk.next (by repeat (first | (with_reducible exact RBb) | (refine Blk.new_at ?_; simp only [World.size_alloc]; done) | (with_reducible refine Blk.alloc ?_ _) | (with_reducible refine Blk.drewN ?_ _))) hb21
                clear RBn RBb RBc0 RBf0 RBc1 RBf1
                have RBb := RBm
                clear RBm
                have RBc0 : World.cell? w21 ⟨w.heap.size + 1, 0, none⟩ = some (.int .u64 hR) := RBb.get 0 rfl
                have RBf0 := Blk.frozen RBb 0
                have RBc1 : World.cell? w21 ⟨w.heap.size + 1, 1, none⟩ = some (.int .u64 lR) := RBb.get 1 rfl
                have RBf1 := Blk.frozen RBb 1
                have RBn := Blk.lt RBb
                have B21 : Below wv.heap.size wv w21 := by first | with_reducible exact below_next B20 hb21 | exact below_step B20 (by go_grown) hb21
                clear hb21 B20
                have f := fun (q' : Nat) (h : q' ≠ qb) (c : Array Value) (b : Blk w21 q' 75 c) => Blk.far (Blk.far b (p := ⟨qb, 0, none⟩) h (.int .u64 hc)) (p := ⟨qb, 1, none⟩) h (.int .u64 lc)
                obtain ⟨P0, P1, PBB⟩ := Blk.puts BBb (.int .u64 hc) (.int .u64 lc)
                have POB := f _ (by omega) _ OBb
                have PAB := f _ (by omega) _ ABb
                have PFB := f _ (by omega) _ FBb
                have PRB := f _ (by omega) _ RBb
                have PB0 : Below w.heap.size w ((w21.setCell ⟨qb, 0, none⟩ (.int .u64 hc)).setCell ⟨qb, 1, none⟩ (.int .u64 lc)) := ((below_next HB.out (below_next HB11.out B21)).setCell (p := ⟨qb, 0, none⟩) (by show w.heap.size ≤ qb; omega) _).setCell (p := ⟨qb, 1, none⟩) (by show w.heap.size ≤ qb; omega) _
                have HH := Lib.hid (And.intro PBB (And.intro POB (And.intro PAB (And.intro PFB (And.intro PRB PB0)))))
                clear PBB POB PAB PFB PRB PB0 f P0 P1
                clear OBb OBc0 OBc1 OBf0 OBf1 OBn ABb ABc0 ABc1 ABf0 ABf1 ABn FBb FBc0 FBc1 FBf0 FBf1 FBn RBb RBc0 RBc1 RBf0 RBf1 RBn B21
                obtain ⟨b1, eb1⟩ : ∃ b, decide (c1 < 0) = b := ⟨_, rfl⟩
                obtain ⟨b2, eb2⟩ : ∃ b, decide (c2 < 0) = b := ⟨_, rfl⟩
                have EB1 := Lib.hid eb1
                have EB2 := Lib.hid eb2
                clear eb1 eb2
                have sA := HH.out.2.2.1
                have sF := HH.out.2.2.2.1
                have xAc0 : World.cell? ((w21.setCell ⟨qb, 0, none⟩ (.int .u64 hc)).setCell ⟨qb, 1, none⟩ (.int .u64 lc)) ⟨qa, 0, none⟩ = some (.int .u64 ha) := sA.get 0 rfl
                have xAf0 := Blk.frozen sA 0
                have xAc1 : World.cell? ((w21.setCell ⟨qb, 0, none⟩ (.int .u64 hc)).setCell ⟨qb, 1, none⟩ (.int .u64 lc)) ⟨qa, 1, none⟩ = some (.int .u64 la) := sA.get 1 rfl
                have xAf1 := Blk.frozen sA 1
                have xFc0 : World.cell? ((w21.setCell ⟨qb, 0, none⟩ (.int .u64 hc)).setCell ⟨qb, 1, none⟩ (.int .u64 lc)) ⟨w.heap.size, 0, none⟩ = some (.int .u64 hF) := sF.get 0 rfl
                have xFf0 := Blk.frozen sF 0
                have xFc1 : World.cell? ((w21.setCell ⟨qb, 0, none⟩ (.int .u64 hc)).setCell ⟨qb, 1, none⟩ (.int .u64 lc)) ⟨w.heap.size, 1, none⟩ = some (.int .u64 lF) := sF.get 1 rfl
                have xFf1 := Blk.frozen sF 1
                clear sA sF
                go_upto_region 13 with (fail)
                clear BBb BBc0 BBc1 BBf0 BBf1 BBn
                go_cut [99] (fun tv wc => tv = .bool b1 ∧ Blk wc qb 75 #[.int .u64 hc, .int .u64 lc] ∧ Blk wc qo 75 #[.int .u64 ho, .int .u64 lo] ∧ Blk wc qa 75 #[.int .u64 ha, .int .u64 la] ∧ Blk wc w.heap.size 75 #[.int .u64 hF, .int .u64 lF] ∧ Blk wc (w.heap.size + 1) 75 #[.int .u64 hR, .int .u64 lR] ∧ Below w.heap.size w wc)
                case first =>
                  go_wp2_with fail
                  with_reducible refine (C1.out _).mono ?_
                  rintro e w22 ⟨rfl, hb22⟩
                  have H2 := Lib.hid (And.intro (Blk.next HH.out.1 hb22) (And.intro (Blk.next HH.out.2.1 hb22) (And.intro (Blk.next HH.out.2.2.1 hb22) (And.intro (Blk.next HH.out.2.2.2.1 hb22) (And.intro (Blk.next HH.out.2.2.2.2.1 hb22) (below_next HH.out.2.2.2.2.2 hb22))))))
                  clear HH hb22 xAc0 xAc1 xFc0 xFc1 xAf0 xAf1 xFf0 xFf1
                  go_wp2_with fail
                  go_meet
                  exact ⟨by simp [EB1.out], H2.out⟩
                case rest =>
                  clear HH xAc0 xAc1 xFc0 xFc1 xAf0 xAf1 xFf0 xFf1
                  obtain ⟨rfl, Bq, Oq, Aq, Fq, Rq, Wq⟩ := hcut
                  obtain ⟨wq, rfl⟩ : ∃ x : World, x = wc := ⟨_, rfl⟩
                  have HH := Lib.hid (And.intro Bq (And.intro Oq (And.intro Aq (And.intro Fq (And.intro Rq Wq)))))
                  have xAc0 : World.cell? wq ⟨qa, 0, none⟩ = some (.int .u64 ha) := Aq.get 0 rfl
                  have xAf0 := Blk.frozen Aq 0
                  have xAc1 : World.cell? wq ⟨qa, 1, none⟩ = some (.int .u64 la) := Aq.get 1 rfl
                  have xAf1 := Blk.frozen Aq 1
                  have xFc0 : World.cell? wq ⟨w.heap.size, 0, none⟩ = some (.int .u64 hF) := Fq.get 0 rfl
                  have xFf0 := Blk.frozen Fq 0
                  have xFc1 : World.cell? wq ⟨w.heap.size, 1, none⟩ = some (.int .u64 lF) := Fq.get 1 rfl
                  have xFf1 := Blk.frozen Fq 1
                  clear Bq Oq Aq Fq Rq Wq
                  go_upto_if 99 with (fail)
                  go_cut [] (fun wc => Blk wc qb 75 #[.int .u64 hc, .int .u64 lc] ∧ Blk wc qo 75 #[.int .u64 ho, .int .u64 lo] ∧ Blk wc qa 75 #[.int .u64 ha, .int .u64 la] ∧ Blk wc w.heap.size 75 #[.int .u64 (hiW (min mg gk')), .int .u64 (loW (min mg gk'))] ∧ Blk wc (w.heap.size + 1) 75 #[.int .u64 hR, .int .u64 lR] ∧ Below w.heap.size w wc)
                  case first =>
                    rcases HC1.out with ⟨d1, d2⟩ | ⟨d1, d2⟩
                    · obtain rfl : b1 = true := by rw [← EB1.out]; exact decide_eq_true d1
                      have HM := Lib.hid d2
                      clear d1 d2
                      go_wp2_with fail
                      go_meet
                      rw [HM.out, EE.out.1, EE.out.2.1]
                      have f := fun (q' : Nat) (h : q' ≠ w.heap.size) (c : Array Value) (b : Blk wq q' 75 c) => Blk.far (Blk.far b (p := ⟨w.heap.size, 0, none⟩) h (.int .u64 ha)) (p := ⟨w.heap.size, 1, none⟩) h (.int .u64 la)
                      exact ⟨f _ (by omega) _ HH.out.1, f _ (by omega) _ HH.out.2.1, f _ (by omega) _ HH.out.2.2.1, (Blk.puts HH.out.2.2.2.1 _ _).2.2, f _ (by omega) _ HH.out.2.2.2.2.1, (HH.out.2.2.2.2.2.setCell (p := ⟨w.heap.size, 0, none⟩) (Nat.le_refl _) _).setCell (p := ⟨w.heap.size, 1, none⟩) (Nat.le_refl _) _⟩
                    · obtain rfl : b1 = false := by rw [← EB1.out]; exact decide_eq_false (by omega)
                      have HM := Lib.hid d2
                      clear d1 d2
                      go_wp2_with fail
                      go_meet
                      rw [HM.out, EE.out.2.2.2.2.1, EE.out.2.2.2.2.2.1]
                      exact HH.out
                  case rest =>
                    clear HH xAc0 xAc1 xFc0 xFc1 xAf0 xAf1 xFf0 xFf1 HC1 C1
                    obtain ⟨Bq, Oq, Aq, Fq, Rq, Wq⟩ := hcut
                    obtain ⟨wp, rfl⟩ : ∃ x : World, x = wc := ⟨_, rfl⟩
                    have HH := Lib.hid (And.intro Bq (And.intro Oq (And.intro Aq (And.intro Fq (And.intro Rq Wq)))))
                    have xBc0 : World.cell? wp ⟨qb, 0, none⟩ = some (.int .u64 hc) := Bq.get 0 rfl
                    have xBf0 := Blk.frozen Bq 0
                    have xBc1 : World.cell? wp ⟨qb, 1, none⟩ = some (.int .u64 lc) := Bq.get 1 rfl
                    have xBf1 := Blk.frozen Bq 1
                    have xRc0 : World.cell? wp ⟨(w.heap.size + 1), 0, none⟩ = some (.int .u64 hR) := Rq.get 0 rfl
                    have xRf0 := Blk.frozen Rq 0
                    have xRc1 : World.cell? wp ⟨(w.heap.size + 1), 1, none⟩ = some (.int .u64 lR) := Rq.get 1 rfl
                    have xRf1 := Blk.frozen Rq 1
                    clear Bq Oq Aq Fq Rq Wq
                    go_upto_region 15 with (fail)
                    go_cut [104] (fun tv wc => tv = .bool b2 ∧ Blk wc qb 75 #[.int .u64 hc, .int .u64 lc] ∧ Blk wc qo 75 #[.int .u64 ho, .int .u64 lo] ∧ Blk wc qa 75 #[.int .u64 ha, .int .u64 la] ∧ Blk wc w.heap.size 75 #[.int .u64 (hiW (min mg gk')), .int .u64 (loW (min mg gk'))] ∧ Blk wc (w.heap.size + 1) 75 #[.int .u64 hR, .int .u64 lR] ∧ Below w.heap.size w wc)
                    case first =>
                      go_wp2_with fail
                      with_reducible refine (C2.out _).mono ?_
                      rintro e w22 ⟨rfl, hb22⟩
                      have H2 := Lib.hid (And.intro (Blk.next HH.out.1 hb22) (And.intro (Blk.next HH.out.2.1 hb22) (And.intro (Blk.next HH.out.2.2.1 hb22) (And.intro (Blk.next HH.out.2.2.2.1 hb22) (And.intro (Blk.next HH.out.2.2.2.2.1 hb22) (below_next HH.out.2.2.2.2.2 hb22))))))
                      clear HH hb22 xBc0 xBc1 xRc0 xRc1 xBf0 xBf1 xRf0 xRf1
                      go_wp2_with fail
                      go_meet
                      exact ⟨by simp [EB2.out], H2.out⟩
                    case rest =>
                      clear HH xBc0 xBc1 xRc0 xRc1 xBf0 xBf1 xRf0 xRf1
                      obtain ⟨rfl, Bq, Oq, Aq, Fq, Rq, Wq⟩ := hcut
                      obtain ⟨ws, rfl⟩ : ∃ x : World, x = wc := ⟨_, rfl⟩
                      have HH := Lib.hid (And.intro Bq (And.intro Oq (And.intro Aq (And.intro Fq (And.intro Rq Wq)))))
                      have xBc0 : World.cell? ws ⟨qb, 0, none⟩ = some (.int .u64 hc) := Bq.get 0 rfl
                      have xBf0 := Blk.frozen Bq 0
                      have xBc1 : World.cell? ws ⟨qb, 1, none⟩ = some (.int .u64 lc) := Bq.get 1 rfl
                      have xBf1 := Blk.frozen Bq 1
                      have xRc0 : World.cell? ws ⟨(w.heap.size + 1), 0, none⟩ = some (.int .u64 hR) := Rq.get 0 rfl
                      have xRf0 := Blk.frozen Rq 0
                      have xRc1 : World.cell? ws ⟨(w.heap.size + 1), 1, none⟩ = some (.int .u64 lR) := Rq.get 1 rfl
                      have xRf1 := Blk.frozen Rq 1
                      clear Bq Oq Aq Fq Rq Wq
                      rcases HC2.out with ⟨d1, d2⟩ | ⟨d1, d2⟩
                      · obtain rfl : b2 = true := by rw [← EB2.out]; exact decide_eq_true d1
                        have HM := Lib.hid d2
                        clear d1 d2
                        have f := fun (q' : Nat) (h : q' ≠ w.heap.size + 1) (c : Array Value) (b : Blk ws q' 75 c) => Blk.far (Blk.far b (p := ⟨w.heap.size + 1, 0, none⟩) h (.int .u64 hc)) (p := ⟨w.heap.size + 1, 1, none⟩) h (.int .u64 lc)
                        have HX := Lib.hid (And.intro (f _ (by omega) _ HH.out.2.1) (And.intro (f _ (by omega) _ HH.out.2.2.2.1) (And.intro (Blk.puts HH.out.2.2.2.2.1 (.int .u64 hc) (.int .u64 lc)).2.2 ((HH.out.2.2.2.2.2.setCell (p := ⟨w.heap.size + 1, 0, none⟩) (Nat.le_succ _) (.int .u64 hc)).setCell (p := ⟨w.heap.size + 1, 1, none⟩) (Nat.le_succ _) (.int .u64 lc)))))
                        clear f HH
                        go_wp2_with fail
                        go_roundg gm
                        case rel => exact ⟨k + 1, by omega, by go_num, by rw [MG.out]; exact HX.out.2.1, by rw [MK.out, HM.out, EE.out.2.2.1, EE.out.2.2.2.1]; exact HX.out.2.2.1, HX.out.1, HX.out.2.2.2⟩
                        case measure => omega
                      · obtain rfl : b2 = false := by rw [← EB2.out]; exact decide_eq_false (by omega)
                        have HM := Lib.hid d2
                        clear d1 d2
                        go_wp2_with fail
                        go_roundg gm
                        case rel => exact ⟨k + 1, by omega, by go_num, by rw [MG.out]; exact HH.out.2.2.2.1, by rw [MK.out, HM.out, EE.out.2.2.2.2.2.2.1, EE.out.2.2.2.2.2.2.2]; exact HH.out.2.2.2.2.1, HH.out.2.1, HH.out.2.2.2.2.2⟩
                        case measure => omega
        · obtain rfl : gk = 0 := by omega
          obtain rfl : k = m + 1 := by omega
          obtain ⟨z1, ez1⟩ : ∃ z, minB 170141183460469231731687303715884105728 G (m + 1) = z := ⟨_, rfl⟩
          obtain ⟨z2, ez2⟩ : ∃ z, minB 170141183460469231731687303715884105728 K (m + 1) = z := ⟨_, rfl⟩
          rw [ez1] at HF S1
          rw [ez2] at HR S2
          obtain ⟨hF, e11⟩ : ∃ z, hiW z1 = z := ⟨_, rfl⟩
          obtain ⟨lF, e12⟩ : ∃ z, loW z1 = z := ⟨_, rfl⟩
          obtain ⟨hR, e13⟩ : ∃ z, hiW z2 = z := ⟨_, rfl⟩
          obtain ⟨lR, e14⟩ : ∃ z, loW z2 = z := ⟨_, rfl⟩
          rw [e11, e12] at HF S1
          rw [e13, e14] at HR S2
          have KZ : Hid (∀ w', Below (wr.heap.size) wr w' → (w'.cell? ⟨w.heap.size, 0, none⟩ = some (.int .u64 hF) ∧ w'.cell? ⟨w.heap.size, 1, none⟩ = some (.int .u64 lF) ∧ w'.cell? ⟨w.heap.size + 1, 0, none⟩ = some (.int .u64 hR) ∧ w'.cell? ⟨w.heap.size + 1, 1, none⟩ = some (.int .u64 lR)) ∧ Below (wr.heap.size) wr w') := fun w' hb => ⟨⟨((Blk.next HF.out hb).get 0 rfl), ((Blk.next HF.out hb).get 1 rfl), ((Blk.next HR.out hb).get 0 rfl), ((Blk.next HR.out hb).get 1 rfl)⟩, hb⟩
          clear ez1 ez2 e11 e12 e13 e14 hlt HX HY HE HXC HYC HG HK
          go_wp2_with fail
          refine wp_region_noPanic ?_
          refine wp_region_held_drew (S := fun w' => (w'.cell? ⟨w.heap.size, 0, none⟩ = some (.int .u64 hF) ∧ w'.cell? ⟨w.heap.size, 1, none⟩ = some (.int .u64 lF) ∧ w'.cell? ⟨w.heap.size + 1, 0, none⟩ = some (.int .u64 hR) ∧ w'.cell? ⟨w.heap.size + 1, 1, none⟩ = some (.int .u64 lR)) ∧ Below (wr.heap.size) wr w') (by kernel_rfl) (KZ.out _ (below_of_drew (Below.refl wr.heap.size wr))) (fun hH => ?_)
          first | (refine wpAnyH_take (i := 0) (v := undef) rfl ?_ ?_ ?_ (fun _ _ _ h => h) ?_ ?_ ?_; kernel_rfl; kernel_rfl; kernel_rfl; exact Or.inr ⟨by rfl, rfl⟩; exact hH) | (refine wpAnyH_take (i := 0) (v := ?_) rfl ?_ ?_ ?_ (fun _ _ _ h => h) ?_ ?_ ?_; rotate_left; kernel_rfl; kernel_rfl; kernel_rfl; (focus (refine Or.inl ⟨by rfl, ?_⟩; intro w' hSw; (try dsimp only at hSw); go_simp)); exact hH) | (refine wpAnyH_take (i := 0) (v := ?_) rfl ?_ ?_ ?_ (fun _ _ _ h => h) ?_ ?_ ?_; rotate_left; kernel_rfl; kernel_rfl; kernel_rfl; (focus (refine Or.inl ⟨by rfl, ?_⟩; intro w' hSw; (try dsimp only at hSw); go_simp; with_reducible rfl)); exact hH)
          try simp only [Act.put, List.getElem_toArray, List.getElem_cons_succ, List.getElem_cons_zero, List.setIfInBounds_toArray, List.set_cons_zero, List.set_cons_succ]
          first | (refine wpAnyH_take (i := 2) (v := undef) rfl ?_ ?_ ?_ (fun _ _ _ h => h) ?_ ?_ ?_; kernel_rfl; kernel_rfl; kernel_rfl; exact Or.inr ⟨by rfl, rfl⟩; exact hH) | (refine wpAnyH_take (i := 2) (v := ?_) rfl ?_ ?_ ?_ (fun _ _ _ h => h) ?_ ?_ ?_; rotate_left; kernel_rfl; kernel_rfl; kernel_rfl; (focus (refine Or.inl ⟨by rfl, ?_⟩; intro w' hSw; (try dsimp only at hSw); go_simp)); exact hH) | (refine wpAnyH_take (i := 2) (v := ?_) rfl ?_ ?_ ?_ (fun _ _ _ h => h) ?_ ?_ ?_; rotate_left; kernel_rfl; kernel_rfl; kernel_rfl; (focus (refine Or.inl ⟨by rfl, ?_⟩; intro w' hSw; (try dsimp only at hSw); go_simp; with_reducible rfl)); exact hH)
          try simp only [Act.put, List.getElem_toArray, List.getElem_cons_succ, List.getElem_cons_zero, List.setIfInBounds_toArray, List.set_cons_zero, List.set_cons_succ]
          refine wpAnyH_ready (rs := [1]) (by kernel_rfl) (by simp) ?_
          refine AllReadyH.cons rfl (fun K hK => ?_) AllReadyH.nil
          go_simp
          with_reducible refine (S1.out _).mono ?_
          rintro e w11 ⟨rfl, hb11'⟩
          have hb11 : Below wr.heap.size wr w11 := below_next hH.2 hb11'
          try go_wp2_with fail
          refine hK.out _ _ (KZ.out _ hb11) (fun hH11 => ?_)
          clear hK K hH
          have hH := hH11
          clear hH11
          try simp only [Act.put, List.getElem_toArray, List.getElem_cons_succ, List.getElem_cons_zero, List.setIfInBounds_toArray, List.set_cons_zero, List.set_cons_succ]
          refine wpAnyH_ready (rs := [3]) (by kernel_rfl) (by simp) ?_
          refine AllReadyH.cons rfl (fun K hK => ?_) AllReadyH.nil
          go_simp
          with_reducible refine (S2.out _).mono ?_
          rintro e w12 ⟨rfl, hb12'⟩
          have hb12 : Below wr.heap.size wr w12 := below_next hH.2 hb12'
          try go_wp2_with fail
          refine hK.out _ _ (KZ.out _ hb12) (fun hH12 => ?_)
          clear hK K hH
          have hH := hH12
          clear hH12
          try simp only [Act.put, List.getElem_toArray, List.getElem_cons_succ, List.getElem_cons_zero, List.setIfInBounds_toArray, List.set_cons_zero, List.set_cons_succ]
          first | (refine wpAnyH_take (i := 4) (v := undef) rfl ?_ ?_ ?_ (fun _ _ _ h => h) ?_ ?_ ?_; kernel_rfl; kernel_rfl; kernel_rfl; exact Or.inr ⟨by rfl, rfl⟩; exact hH) | (refine wpAnyH_take (i := 4) (v := ?_) rfl ?_ ?_ ?_ (fun _ _ _ h => h) ?_ ?_ ?_; rotate_left; kernel_rfl; kernel_rfl; kernel_rfl; (focus (refine Or.inl ⟨by rfl, ?_⟩; intro w' hSw; (try dsimp only at hSw); go_simp)); exact hH) | (refine wpAnyH_take (i := 4) (v := ?_) rfl ?_ ?_ ?_ (fun _ _ _ h => h) ?_ ?_ ?_; rotate_left; kernel_rfl; kernel_rfl; kernel_rfl; (focus (refine Or.inl ⟨by rfl, ?_⟩; intro w' hSw; (try dsimp only at hSw); go_simp; with_reducible rfl)); exact hH)
          try simp only [Act.put, List.getElem_toArray, List.getElem_cons_succ, List.getElem_cons_zero, List.setIfInBounds_toArray, List.set_cons_zero, List.set_cons_succ]
          first | (refine wpAnyH_take (i := 5) (v := undef) rfl ?_ ?_ ?_ (fun _ _ _ h => h) ?_ ?_ ?_; kernel_rfl; kernel_rfl; kernel_rfl; exact Or.inr ⟨by rfl, rfl⟩; exact hH) | (refine wpAnyH_take (i := 5) (v := ?_) rfl ?_ ?_ ?_ (fun _ _ _ h => h) ?_ ?_ ?_; rotate_left; kernel_rfl; kernel_rfl; kernel_rfl; (focus (refine Or.inl ⟨by rfl, ?_⟩; intro w' hSw; (try dsimp only at hSw); go_simp)); exact hH) | (refine wpAnyH_take (i := 5) (v := ?_) rfl ?_ ?_ ?_ (fun _ _ _ h => h) ?_ ?_ ?_; rotate_left; kernel_rfl; kernel_rfl; kernel_rfl; (focus (refine Or.inl ⟨by rfl, ?_⟩; intro w' hSw; (try dsimp only at hSw); go_simp; with_reducible rfl)); exact hH)
          try simp only [Act.put, List.getElem_toArray, List.getElem_cons_succ, List.getElem_cons_zero, List.setIfInBounds_toArray, List.set_cons_zero, List.set_cons_succ]
          refine wpAnyH_done (by kernel_rfl) ?_ _
          refine NoPanic.normal ?_
          clear hH
          go_wp2_with fail
          go_ret2
          exact ⟨by simp, below_next HB.out hb12⟩

end Go.Proofs.Ytdkeoanlcninkaa
