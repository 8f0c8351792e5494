/-
  What At, Steepest and Reach of a curve compute.
-/
import Derived.Test.YtjhffbhjiflfeaaGreatCurveA
import Derived.Test.YtjhffbhjiflfeaaGreatRatioC
namespace Go.Proofs.YtjhffbhjiflfeaaGreat
set_option linter.unusedVariables false
set_option linter.unusedSimpArgs false
open Go.RowKit Go.Shelf

attribute [local go_sem] Oper.semAt_some

/-- What has come together, and what is left, behind some pieces. -/
def atFold (t : Int) (l : List Piece) : Int × Int := l.foldl (fun s x => (stopN (s.1 + stopN (x.1.1 * min s.2 x.1.2)), s.2 - min s.2 x.1.2)) (0, t)
theorem atFold_snoc (t : Int) (pre : List Piece) (x : Piece) : atFold t (pre ++ [x]) = (stopN ((atFold t pre).1 + stopN (x.1.1 * min (atFold t pre).2 x.1.2)), (atFold t pre).2 - min (atFold t pre).2 x.1.2) := by simp [atFold]
theorem atFold_bounds {t : Int} (ht : Word t) (l : List Piece) : (0 ≤ (atFold t l).1 ∧ (atFold t l).1 ≤ 4611686018427387904) ∧ 0 ≤ (atFold t l).2 ∧ (atFold t l).2 ≤ t := by
  have h : ∀ (l : List Piece) (s : Int × Int), (0 ≤ s.1 ∧ s.1 ≤ 4611686018427387904) → (0 ≤ s.2 ∧ s.2 ≤ t) →
      (0 ≤ (l.foldl (fun s x => (stopN (s.1 + stopN (x.1.1 * min s.2 x.1.2)), s.2 - min s.2 x.1.2)) s).1 ∧ (l.foldl (fun s x => (stopN (s.1 + stopN (x.1.1 * min s.2 x.1.2)), s.2 - min s.2 x.1.2)) s).1 ≤ 4611686018427387904) ∧
      0 ≤ (l.foldl (fun s x => (stopN (s.1 + stopN (x.1.1 * min s.2 x.1.2)), s.2 - min s.2 x.1.2)) s).2 ∧ (l.foldl (fun s x => (stopN (s.1 + stopN (x.1.1 * min s.2 x.1.2)), s.2 - min s.2 x.1.2)) s).2 ≤ t := by
    intro l
    induction l with
    | nil => intro s h1 h2; exact ⟨h1, h2⟩
    | cons x l ih =>
      intro s h1 h2
      have hx1 := x.2.1.1
      have hx2 := x.2.2.1
      refine ih _ ⟨?_, stop_le _⟩ ⟨?_, ?_⟩
      · have := stop_nonneg (Int.mul_nonneg hx1 (show 0 ≤ min s.2 x.1.2 by omega))
        exact stop_nonneg (by omega)
      · dsimp only; omega
      · dsimp only; omega
  exact h l (0, t) ⟨Int.le_refl _, by simp⟩ ⟨ht.1, Int.le_refl _⟩
theorem atFold_all {F L R t : Int} (hF : Word F) (hL : Word L) (hR : Word R) (ht : Word t) : (atFold t (piecesOf F L R hF hL hR)).1 = atN F L R t := by
  have f0 := hF.1
  have l0 := hL.1
  have r0 := hR.1
  have t0 := ht.1
  have t1 := ht.2
  unfold piecesOf atFold atN rawN
  by_cases h : 0 < L
  · rw [if_pos h]
    simp only [List.foldl_cons, List.foldl_nil]
    have e : min (t - min t L) 18446744073709551615 = t - min t L := by omega
    have p1 := Int.mul_nonneg f0 (show 0 ≤ min t L by omega)
    have p2 := Int.mul_nonneg r0 (show 0 ≤ t - min t L by omega)
    have q1 := stop_nonneg p1
    rw [e, Int.zero_add, stop_small (stop_le (F * min t L)), stop_stop p1 p2]
  · rw [if_neg h]
    simp only [List.foldl_cons, List.foldl_nil]
    have e0 : L = 0 := by omega
    subst e0
    have e : min t 18446744073709551615 = t := by omega
    have e1 : min t 0 = 0 := by omega
    rw [e, e1, Int.sub_zero, Int.mul_zero, Int.zero_add, Int.zero_add, stop_small (stop_le _)]

end Go.Proofs.YtjhffbhjiflfeaaGreat

/-!
  What Steepest and Reach of a curve compute.
-/
namespace Go.Proofs.YtjhffbhjiflfeaaGreat
set_option linter.unusedVariables false
set_option linter.unusedSimpArgs false
open Go.RowKit Go.Shelf

attribute [local go_sem] Oper.semAt_some

/-! ### Steepest -/
def mostOf (l : List Piece) : Int := l.foldl (fun s x => max s x.1.1) 0
theorem mostOf_snoc (pre : List Piece) (x : Piece) : mostOf (pre ++ [x]) = max (mostOf pre) x.1.1 := by simp [mostOf]
theorem mostOf_all {F L R : Int} (hF : Word F) (hL : Word L) (hR : Word R) : mostOf (piecesOf F L R hF hL hR) = steepN F L R := by
  have f0 := hF.1
  have r0 := hR.1
  unfold piecesOf mostOf steepN
  by_cases h : 0 < L
  · rw [if_pos h, if_pos h]; simp only [List.foldl_cons, List.foldl_nil]; omega
  · rw [if_neg h, if_neg h]; simp only [List.foldl_cons, List.foldl_nil]; omega

/-! ### Reach -/
def scanN (y a : Int) : List Piece → Option Int
  | [] => none
  | x :: l => if y ≤ stopN (x.1.1 * x.1.2) then some (if y = 0 then a else IntKind.u64.wrap (a + upN y 1 x.1.1)) else scanN (y - stopN (x.1.1 * x.1.2)) (IntKind.u64.wrap (a + x.1.2)) l
theorem scan_all {F L R y : Int} (hF : Word F) (hL : Word L) (hR : Word R) (hm : May F L R) (hy : 0 ≤ y) (hy1 : y ≤ 4611686018427387904) :
    (scanN y 0 (piecesOf F L R hF hL hR)).getD 9223372036854775808 = reachN F L R y := by
  obtain ⟨f0, f1, l0, l1, r0, r1, hn, hap⟩ := hm
  have fl0 : 0 ≤ F * L := Int.mul_nonneg f0 l0
  have fl1 : F * L ≤ 1048576 * L := Int.mul_le_mul_of_nonneg_right f1 l0
  have s1 : stopN (F * L) = F * L := stop_small (by omega)
  have wr : ∀ x : Int, 0 ≤ x → x < 18446744073709551616 → IntKind.u64.wrap x = x := fun x a b => by rw [IntKind.wrap_u64]; omega
  unfold reachN
  rw [if_neg (by omega)]
  -- the second piece
  have second : ∀ z : Int, 0 ≤ z → z ≤ 4611686018427387904 → (scanN z L [⟨(R, 18446744073709551615), hR, wordMax⟩]).getD 9223372036854775808 = if z = 0 then L else if R = 0 then 9223372036854775808 else L + upN z 1 R := by
    intro z z0 z1
    unfold scanN
    dsimp only
    by_cases hz : z = 0
    · subst hz
      have : 0 ≤ stopN (R * 18446744073709551615) := stop_nonneg (Int.mul_nonneg r0 (by decide))
      rw [if_pos this, if_pos rfl, if_pos rfl]; rfl
    · rw [if_neg hz, if_neg hz]
      by_cases hR0 : R = 0
      · subst hR0
        rw [Int.zero_mul, if_pos rfl, stop_small (by decide), if_neg (by omega)]; rfl
      · rw [if_neg hR0]
        have : z ≤ stopN (R * 18446744073709551615) := by
          rw [stop_ge z1]
          have := Int.mul_le_mul_of_nonneg_right (show (1 : Int) ≤ R by omega) (show (0 : Int) ≤ 18446744073709551615 by decide)
          omega
        have u := up_spec (y := z) (s := R) (by omega) (by omega) z1 rfl
        rw [if_pos this, wr _ (by omega) (by omega)]; rfl
  unfold piecesOf
  by_cases h : 0 < L
  · rw [if_pos h]
    unfold scanN
    dsimp only
    rw [s1]
    by_cases h2 : y ≤ F * L
    · rw [if_pos h2, if_pos (show 0 < L ∧ y ≤ F * L from ⟨h, h2⟩)]
      by_cases h3 : y = 0
      · rw [if_pos h3, if_pos h3]; rfl
      · rw [if_neg h3, if_neg h3]
        have hF0 : 0 < F := by
          rcases Int.lt_or_le 0 F with k | k
          · exact k
          · have : F = 0 := by omega
            rw [this, Int.zero_mul] at h2; omega
        have u := up_spec (y := y) (s := F) hF0 (by omega) hy1 rfl
        rw [Int.zero_add, wr _ (by omega) (by omega)]; rfl
    · rw [if_neg h2, if_neg (by omega), Int.zero_add, wr _ (by omega) (by omega)]
      exact second _ (by omega) (by omega)
  · rw [if_neg h]
    have e : L = 0 := by omega
    subst e
    rw [if_neg (by omega), Int.mul_zero, Int.sub_zero]
    exact second y hy hy1

set_option maxRecDepth 100000 in
set_option maxHeartbeats 4000000 in
theorem reach_any (F L R y : Int) (w : World) (hm : May F L R) (hy : Word y) :
    Calls Tryz.prog 139 #[.agg #[.int .u64 F, .int .u64 L, .int .u64 R], .int .u64 y] w fun e w' => e = .returned (.int .u64 (reachN F L R y)) ∧ Below w.heap.size w w' := by
  have hF : Word F := ⟨hm.f0, by have := hm.f1; omega⟩
  have hL : Word L := ⟨hm.l0, by have := hm.l1; omega⟩
  have hR : Word R := ⟨hm.r0, by have := hm.r1; omega⟩
  have y0 := hy.1
  by_cases hyc : 4611686018427387904 < y
  · have e : reachN F L R y = 9223372036854775808 := by unfold reachN; rw [if_pos hyc]
    rw [e]
    clear e hm
    go_enter Tryz.func139, Tryz.ntmps139
    go_wp2_with fail
    go_returns
    exact ⟨by simp, by go_grown⟩
  have hyc' : y ≤ 4611686018427387904 := by omega
  have HA := Lib.hid (scan_all hF hL hR hm y0 hyc')
  clear hm
  refine (callsIn_wide (n := 6)).1 ?_
  refine callsIn_of_wp_marks Tryz.func139 rfl trivial ?_ rfl
  simp only [Tryz.ntmps139, List.size_toArray, List.length_cons, List.length_nil, Nat.reduceAdd, Nat.reduceSub, Array.replicate_succ, Array.replicate_zero, List.push_toArray, List.append_toArray, List.nil_append, List.cons_append]
  gi_wp2_with (refine ⟨trivial, ?_⟩; gi_at_call 146; refine (callsIn_wide.2 (pieces_any F L R _)).mono ?_; rintro e w' ⟨rfl, rfl⟩)
  have bY := (((Blk.new (w.alloc (.cells #[.int .u64 F, .int .u64 L, .int .u64 R] 32)) 28 #[.int .u64 y]).alloc (.cells #[.int .u64 0] 28)).alloc (.cells #[.int .u64 0] 28)).alloc (.cells #[.int .u64 F, .int .u64 L, .int .u64 R] 32)
  have bR := ((Blk.new ((w.alloc (.cells #[.int .u64 F, .int .u64 L, .int .u64 R] 32)).alloc (.cells #[.int .u64 y] 28)) 28 #[.int .u64 0]).alloc (.cells #[.int .u64 0] 28)).alloc (.cells #[.int .u64 F, .int .u64 L, .int .u64 R] 32)
  have bA := (Blk.new (((w.alloc (.cells #[.int .u64 F, .int .u64 L, .int .u64 R] 32)).alloc (.cells #[.int .u64 y] 28)).alloc (.cells #[.int .u64 0] 28)) 28 #[.int .u64 0]).alloc (.cells #[.int .u64 F, .int .u64 L, .int .u64 R] 32)
  have bP := Blk.new ((((w.alloc (.cells #[.int .u64 F, .int .u64 L, .int .u64 R] 32)).alloc (.cells #[.int .u64 y] 28)).alloc (.cells #[.int .u64 0] 28)).alloc (.cells #[.int .u64 0] 28)) 32 #[.int .u64 F, .int .u64 L, .int .u64 R]
  simp only [World.size_alloc] at bY bR bA bP
  have hB0 : Below w.heap.size w (((((w.alloc (.cells #[.int .u64 F, .int .u64 L, .int .u64 R] 32)).alloc (.cells #[.int .u64 y] 28)).alloc (.cells #[.int .u64 0] 28)).alloc (.cells #[.int .u64 0] 28)).alloc (.cells #[.int .u64 F, .int .u64 L, .int .u64 R] 32)) := by go_grown
  have hsz : ((((((w.alloc (.cells #[.int .u64 F, .int .u64 L, .int .u64 R] 32)).alloc (.cells #[.int .u64 y] 28)).alloc (.cells #[.int .u64 0] 28)).alloc (.cells #[.int .u64 0] 28)).alloc (.cells #[.int .u64 F, .int .u64 L, .int .u64 R] 32))).heap.size = w.heap.size + 5 := by simp
  obtain ⟨W0, hW0⟩ : ∃ W0, (((((w.alloc (.cells #[.int .u64 F, .int .u64 L, .int .u64 R] 32)).alloc (.cells #[.int .u64 y] 28)).alloc (.cells #[.int .u64 0] 28)).alloc (.cells #[.int .u64 0] 28)).alloc (.cells #[.int .u64 F, .int .u64 L, .int .u64 R] 32)) = W0 := ⟨_, rfl⟩
  rw [hW0] at bY bR bA bP hB0 hsz ⊢
  clear hW0
  refine wpIn_rangeFunc_ownH rfl (by omega) (gf := 148) (lb := #[.pointer (some ⟨w.heap.size + 1 + 1 + 1 + 1, 0, none⟩)]) rfl trivial (enters_of Tryz.func148 (by kernel_rfl) rfl)
    (pieces_stops 5 (by omega) (w.heap.size + 1 + 1 + 1 + 1) F L R hF hL hR W0 bP) KeepsB.trans (KeepsB.put (by omega)) (Below.refl _ _) (fun _ => rfl)
    (fun pre W => (∃ u a, Blk W (w.heap.size + 1) 28 #[.int .u64 u] ∧ Blk W (w.heap.size + 1 + 1 + 1) 28 #[.int .u64 a] ∧ 0 ≤ u ∧ u ≤ 4611686018427387904 ∧ ∀ rest, scanN y 0 (pre ++ rest) = scanN u a rest) ∧ Blk W (w.heap.size + 1 + 1) 28 #[.int .u64 0] ∧ Below w.heap.size w W ∧ w.heap.size + 5 ≤ W.heap.size)
    (fun c pre W => (∃ v, Blk W (w.heap.size + 1 + 1) 28 #[.int .u64 v] ∧ c = .ret ∧ ∀ rest, scanN y 0 (pre ++ rest) = some v) ∧ Below w.heap.size w W ∧ w.heap.size + 5 ≤ W.heap.size)
    (OwnFrom.and (Own.from (fun s X Y row hs hg hr => by obtain ⟨u, a, h1, h2, h3⟩ := hs; exact ⟨u, a, Blk.own _ _ (fun (_ : Unit) => #[Value.int .u64 u]) () X Y row h1 hg hr, Blk.own _ _ (fun (_ : Unit) => #[Value.int .u64 a]) () X Y row h2 hg hr, h3⟩) _) (OwnFrom.and (Own.from (Blk.own _ _ _) _) (OwnFrom.and (ownFrom_below (Nat.le_refl _) (by omega)) (ownFrom_size _ _))))
    (fun c => OwnFrom.and (Own.from (fun s X Y row hs hg hr => by obtain ⟨v, h1, h3⟩ := hs; exact ⟨v, Blk.own _ _ (fun (_ : Unit) => #[Value.int .u64 v]) () X Y row h1 hg hr, h3⟩) _) (OwnFrom.and (ownFrom_below (Nat.le_refl _) (by omega)) (ownFrom_size _ _)))
    ⟨⟨y, 0, bY, bA, y0, hyc', fun _ => rfl⟩, bR, hB0, by omega⟩
    (fun x a' W => ∃ Bx, w.heap.size + 5 ≤ Bx ∧ Blk W Bx 199 #[.int .u64 x.1.1, .int .u64 x.1.2] ∧ a' = { tmps := #[.agg #[.int .u64 F, .int .u64 L, .int .u64 R], .int .u64 y, .pointer (some ⟨w.heap.size, 0, none⟩), .pointer (some ⟨w.heap.size + 1, 0, none⟩), .pointer (some ⟨w.heap.size + 1 + 1, 0, none⟩), .pointer (some ⟨w.heap.size + 1 + 1 + 1, 0, none⟩), .pointer (some ⟨Bx, 0, none⟩), undef, undef, undef, .int .u64 y, .bool false, .agg #[.int .u64 F, .int .u64 L, .int .u64 R], .func (.func 148) #[] #[.pointer (some ⟨w.heap.size + 1 + 1 + 1 + 1, 0, none⟩)], .agg #[.int .u64 x.1.1, .int .u64 x.1.2], undef, undef, undef, undef, undef, undef, undef, undef, undef, undef, undef, undef, undef, undef, undef, undef, undef, undef, undef, undef, undef, undef, undef, undef, undef, undef, undef, undef], defers := [] })
    (fun x a' _ X Y row hs hg hr => by obtain ⟨Bx, h1, h2, h3⟩ := hs; exact ⟨Bx, h1, Blk.own Bx _ (fun (_ : Unit) => #[Value.int .u64 x.1.1, .int .u64 x.1.2]) () X Y row h2 hg (fun r e => (hr r e).2), h3⟩)
    ?assign ?body ?done ?stop
  case assign =>
    rintro l pre x W K ⟨⟨u, a, bY1, bA1, u0, u1, hs⟩, bR1, hB1, hn1⟩ hK
    dsimp only [encPiece]
    gi_wp2
    exact hK _ _ ((KeepsOthers.alloc _ _).from _) (KeepsB.alloc (by omega) _) ⟨⟨u, a, bY1.alloc _, bA1.alloc _, u0, u1, hs⟩, bR1.alloc _, hB1.alloc hB1.size _, by simp only [World.size_alloc]; omega⟩ ⟨W.heap.size, hn1, Blk.new W _ _, rfl⟩
  case body =>
    rintro l pre x a' W hl ⟨r, hr⟩ ⟨⟨u, a, bY1, bA1, u0, u1, hs⟩, bR1, hB1, hn1⟩ ⟨Bx, hBx, bX, rfl⟩ hlt
    have HS := Lib.hid (hs)
    clear hs
    obtain ⟨⟨slo, lo⟩, hx⟩ := x
    dsimp only at bX hx
    obtain ⟨hx1, hx2⟩ := hx
    have HS2 : Hid (∀ rest, scanN y 0 ((pre ++ [⟨(slo, lo), hx1, hx2⟩]) ++ rest) = if u ≤ stopN (slo * lo) then some (if u = 0 then a else IntKind.u64.wrap (a + upN u 1 slo)) else scanN (u - stopN (slo * lo)) (IntKind.u64.wrap (a + lo)) rest) := by
      intro rest
      rw [List.append_assoc, HS.out]; rfl
    have p0 := Int.mul_nonneg hx1.1 hx2.1
    have TI := Lib.hid (fun w => times_any slo lo w hx1 hx2)
    have w0 := stop_nonneg p0
    have w1 := stop_le (slo * lo)
    have hsl : slo = 0 → stopN (slo * lo) = 0 := by intro e; rw [e, Int.zero_mul]; rfl
    clear p0
    obtain ⟨h, eh⟩ : ∃ h, stopN (slo * lo) = h := ⟨_, rfl⟩
    rw [eh] at TI w0 w1 HS2 hsl
    clear eh HS
    have kl : ∀ W' : World, Below W.heap.size W W' → KeepsB (w.heap.size + 1 + 1 + 1 + 1) W W' := fun W' hb => KeepsB.below hb (by omega)
    have KL := Lib.hid kl
    clear kl
    have cX0 : W.cell? ⟨Bx, 0, none⟩ = some (.int .u64 slo) := bX.get 0 rfl
    have cX1 : W.cell? ⟨Bx, 1, none⟩ = some (.int .u64 lo) := bX.get 1 rfl
    by_cases huh : u ≤ h
    · rcases Int.lt_or_le 0 u with hu | hu
      · have UP := Lib.hid (fun w => up_any u 1 slo w ⟨u0, by omega⟩ (by decide) hx1)
        obtain ⟨n, en⟩ : ∃ n, upN u 1 slo = n := ⟨_, rfl⟩
        have ee : errN slo = 0 := by unfold errN; rw [if_neg (fun e => by have := hsl e; omega)]
        rw [en] at UP HS2
        rw [ee] at UP
        have HV : Hid (∀ rest, scanN y 0 ((pre ++ [⟨(slo, lo), hx1, hx2⟩]) ++ rest) = some (IntKind.u64.wrap (a + n))) := by intro rest; rw [HS2.out, if_pos huh, if_neg (by omega)]
        clear en ee HS2 hsl
        gi_wp2_with (first
          | (refine ⟨trivial, ?_⟩; gi_at_call 121; refine (CallsIn.inRound l (callsIn_wide.2 (TI.out _))).mono ?_; rintro e W2 ⟨rfl, hb2⟩; have bY2 := bY1.next hb2; have cY2 : W2.cell? ⟨w.heap.size + 1, 0, none⟩ = some (.int .u64 u) := bY2.get 0 rfl; have bX2 := bX.next hb2; have cX2 : W2.cell? ⟨Bx, 0, none⟩ = some (.int .u64 slo) := bX2.get 0 rfl; have bA2 := bA1.next hb2; have bR2 := bR1.next hb2)
          | (refine ⟨trivial, ?_⟩; gi_at_call 120; refine (CallsIn.inRound l (callsIn_wide.2 (UP.out _))).mono ?_; rintro e W3 ⟨rfl, hb3⟩; have bA3 := bA2.next hb3; have cA3 : W3.cell? ⟨w.heap.size + 1 + 1 + 1, 0, none⟩ = some (.int .u64 a) := bA3.get 0 rfl; have bR3 := bR2.next hb3; have cR3 : W3.cell? ⟨w.heap.size + 1 + 1, 0, none⟩ = some (.int .u64 0) := bR3.get 0 rfl; have fR3 := Blk.frozen bR3 0))
        have hB2 := below_next hB1 hb2
        have hB3 := below_next hB2 hb3
        have z2 := hb2.size
        have z3 := hb3.size
        exact ⟨(((KeepsOthers.of_below hb2).trans (KeepsOthers.of_below hb3)).trans (KeepsOthers.setCell _ _ _)).from _, ⟨_, bR3.put 0 _, rfl, HV.out⟩, hB3.setCell (p := ⟨w.heap.size + 1 + 1, 0, none⟩) (show w.heap.size ≤ w.heap.size + 1 + 1 by omega) _, by simp; omega⟩
      · have eu : u = 0 := by omega
        subst eu
        have HV : Hid (∀ rest, scanN y 0 ((pre ++ [⟨(slo, lo), hx1, hx2⟩]) ++ rest) = some a) := by intro rest; rw [HS2.out, if_pos huh, if_pos rfl]
        clear HS2 hsl
        gi_wp2_with (refine ⟨trivial, ?_⟩; gi_at_call 121; refine (CallsIn.inRound l (callsIn_wide.2 (TI.out _))).mono ?_; rintro e W2 ⟨rfl, hb2⟩; have bY2 := bY1.next hb2; have cY2 : W2.cell? ⟨w.heap.size + 1, 0, none⟩ = some (.int .u64 0) := bY2.get 0 rfl; have fY2 := Blk.frozen bY2 0; have bX2 := bX.next hb2; have cX2 : W2.cell? ⟨Bx, 0, none⟩ = some (.int .u64 slo) := bX2.get 0 rfl; have cX3 : W2.cell? ⟨Bx, 1, none⟩ = some (.int .u64 lo) := bX2.get 1 rfl; have bA2 := bA1.next hb2; have cA2 : W2.cell? ⟨w.heap.size + 1 + 1 + 1, 0, none⟩ = some (.int .u64 a) := bA2.get 0 rfl; have fA2 := Blk.frozen bA2 0; have bR2 := bR1.next hb2; have cR2 : W2.cell? ⟨w.heap.size + 1 + 1, 0, none⟩ = some (.int .u64 0) := bR2.get 0 rfl; have fR2 := Blk.frozen bR2 0)
        have hB2 := below_next hB1 hb2
        have z2 := hb2.size
        exact ⟨((KeepsOthers.of_below hb2).trans (KeepsOthers.setCell _ _ _)).from _, ⟨_, bR2.put 0 _, rfl, HV.out⟩, hB2.setCell (p := ⟨w.heap.size + 1 + 1, 0, none⟩) (show w.heap.size ≤ w.heap.size + 1 + 1 by omega) _, by simp; omega⟩
    · have huh' : h < u := by omega
      have HV : Hid (∀ rest, scanN y 0 ((pre ++ [⟨(slo, lo), hx1, hx2⟩]) ++ rest) = scanN (u - h) (IntKind.u64.wrap (a + lo)) rest) := by intro rest; rw [HS2.out, if_neg huh]
      have hw : IntKind.u64.wrap (u - h) = u - h := by rw [IntKind.wrap_u64]; omega
      clear HS2 hsl huh
      gi_wp2_with (refine ⟨trivial, ?_⟩; gi_at_call 121; refine (CallsIn.inRound l (callsIn_wide.2 (TI.out _))).mono ?_; rintro e W2 ⟨rfl, hb2⟩; have bY2 := bY1.next hb2; have cY2 : W2.cell? ⟨w.heap.size + 1, 0, none⟩ = some (.int .u64 u) := bY2.get 0 rfl; have fY2 := Blk.frozen bY2 0; have bX2 := bX.next hb2; have cX2 : W2.cell? ⟨Bx, 0, none⟩ = some (.int .u64 slo) := bX2.get 0 rfl; have cX3 : W2.cell? ⟨Bx, 1, none⟩ = some (.int .u64 lo) := bX2.get 1 rfl; have bA2 := bA1.next hb2; have cA2 : W2.cell? ⟨w.heap.size + 1 + 1 + 1, 0, none⟩ = some (.int .u64 a) := bA2.get 0 rfl; have fA2 := Blk.frozen bA2 0; have bR2 := bR1.next hb2; have cR2 : W2.cell? ⟨w.heap.size + 1 + 1, 0, none⟩ = some (.int .u64 0) := bR2.get 0 rfl; have fR2 := Blk.frozen bR2 0)
      have hB2 := below_next hB1 hb2
      have z2 := hb2.size
      exact ⟨((KeepsOthers.of_below hb2).trans ((KeepsOthers.setCell _ _ _).trans (KeepsOthers.setCell _ _ _))).from _, (KL.out _ hb2).trans ((KeepsB.far _ (p := ⟨w.heap.size + 1, 0, none⟩) (show w.heap.size + 1 + 1 + 1 + 1 ≠ w.heap.size + 1 by omega) _).trans (KeepsB.far _ (p := ⟨w.heap.size + 1 + 1 + 1, 0, none⟩) (show w.heap.size + 1 + 1 + 1 + 1 ≠ w.heap.size + 1 + 1 + 1 by omega) _)),
        ⟨u - h, _, (bY2.put 0 _).far (p := ⟨w.heap.size + 1 + 1 + 1, 0, none⟩) (show w.heap.size + 1 ≠ w.heap.size + 1 + 1 + 1 by omega) _, (bA2.far (p := ⟨w.heap.size + 1, 0, none⟩) (show w.heap.size + 1 + 1 + 1 ≠ w.heap.size + 1 by omega) _).put 0 _, by omega, by omega, HV.out⟩,
        (bR2.far (p := ⟨w.heap.size + 1, 0, none⟩) (show w.heap.size + 1 + 1 ≠ w.heap.size + 1 by omega) _).far (p := ⟨w.heap.size + 1 + 1 + 1, 0, none⟩) (show w.heap.size + 1 + 1 ≠ w.heap.size + 1 + 1 + 1 by omega) _,
        (hB2.setCell (p := ⟨w.heap.size + 1, 0, none⟩) (show w.heap.size ≤ w.heap.size + 1 by omega) _).setCell (p := ⟨w.heap.size + 1 + 1 + 1, 0, none⟩) (show w.heap.size ≤ w.heap.size + 1 + 1 + 1 by omega) _, by simp; omega⟩
  case done =>
    rintro D ys W hD rfl ⟨⟨u, a, bY1, bA1, u0, u1, hs⟩, bR1, hB1, hn1⟩ hK
    have hs2 := hs []
    rw [List.append_nil] at hs2
    have e : reachN F L R y = 9223372036854775808 := by rw [← HA.out, hs2]; rfl
    have E := Lib.hid e
    have cR : W.cell? ⟨w.heap.size + 1 + 1, 0, none⟩ = some (.int .u64 0) := bR1.get 0 rfl
    have fR := Blk.frozen bR1 0
    clear hs hs2 e
    gi_wp2
    have hK' := (KeepsOthers.setCell W ⟨w.heap.size + 1 + 1, 0, none⟩ (.int .u64 9223372036854775808)).same D _ hK rfl
    refine ⟨by simp, .inl ⟨_, _, rfl, run_takeDeferred hK', ?_⟩⟩
    have hc5 := cell_kept (World.cell?_setCell_same' W ⟨w.heap.size + 1 + 1, 0, none⟩ (.int .u64 9223372036854775808) (by rw [cR]; rfl)) (grownBy_putObj' _ D (.deferred none)) (fun r e => by cases e; exact ⟨_, hK', rfl⟩)
    refine ⟨.int .u64 9223372036854775808, ?_, by rw [E.out], (hB1.setCell (p := ⟨w.heap.size + 1 + 1, 0, none⟩) (show w.heap.size ≤ w.heap.size + 1 + 1 by omega) _).trans (belowK_b (w := w) (Nat.le_refl _) _ D _ _ (by omega) hK' rfl rfl)⟩
    simp [results, Tryz.results139, go_sem, hc5]
  case stop =>
    rintro D c pre W hD hpre ⟨⟨v, bR1, rfl, hs⟩, hB1, hn1⟩ hK
    obtain ⟨rest, hrest⟩ := hpre
    have e : reachN F L R y = v := by rw [← HA.out, ← hrest, hs]; rfl
    have E := Lib.hid e
    have cR : W.cell? ⟨w.heap.size + 1 + 1, 0, none⟩ = some (.int .u64 v) := bR1.get 0 rfl
    clear hs e hrest
    gi_wp2
    refine ⟨by simp, .inl ⟨_, _, rfl, run_takeDeferred hK, ?_⟩⟩
    have hc5 := cell_kept cR (grownBy_putObj' _ D (.deferred none)) (fun r e => by cases e; exact ⟨_, hK, rfl⟩)
    refine ⟨.int .u64 v, ?_, by rw [E.out], hB1.trans (belowK_b (w := w) (Nat.le_refl _) W D _ _ (by omega) hK rfl rfl)⟩
    simp [results, Tryz.results139, go_sem, hc5]

end Go.Proofs.YtjhffbhjiflfeaaGreat

/-!
  What May, None, Bent, Straight, Burst of a curve compute; contracts at named values.
-/
namespace Go.Proofs.YtjhffbhjiflfeaaGreat
set_option linter.unusedVariables false
set_option linter.unusedSimpArgs false
open Go.RowKit Go.Shelf

theorem may_any (F L R : Int) (w : World) : Calls Tryz.prog 33 #[.agg #[.int .u64 F, .int .u64 L, .int .u64 R]] w fun e w' => e = .returned (.bool (mayB F L R)) ∧ Below w.heap.size w w' := by
  unfold mayB
  by_cases h1 : F > 1048576
  · rw [if_pos (.inl h1)]
    go_enter Tryz.func33, Tryz.ntmps33
    go_wp2_with fail
    go_ret
    exact ⟨rfl, by go_grown⟩
  by_cases h2 : R > 1048576
  · rw [if_pos (.inr (.inl h2))]
    have h1' : F ≤ 1048576 := by omega
    go_enter Tryz.func33, Tryz.ntmps33
    go_wp2_with fail
    go_ret
    exact ⟨rfl, by go_grown⟩
  by_cases h3 : L > 1099511627776
  · rw [if_pos (.inr (.inr h3))]
    have h1' : F ≤ 1048576 := by omega
    have h2' : R ≤ 1048576 := by omega
    go_enter Tryz.func33, Tryz.ntmps33
    go_wp2_with fail
    go_ret
    exact ⟨rfl, by go_grown⟩
  rw [if_neg (by omega)]
  have h1' : F ≤ 1048576 := by omega
  have h2' : R ≤ 1048576 := by omega
  have h3' : L ≤ 1099511627776 := by omega
  by_cases h4 : L = 0
  · rw [if_pos h4]
    subst h4
    go_enter Tryz.func33, Tryz.ntmps33
    go_wp2_with fail
    go_ret
    exact ⟨rfl, by go_grown⟩
  · rw [if_neg h4]
    have h4' : (L == 0) = false := beq_eq_false_iff_ne.2 h4
    clear h4
    go_enter Tryz.func33, Tryz.ntmps33
    go_wp2_with fail
    go_ret
    exact ⟨rfl, by go_grown⟩
theorem may_val (F L R : Int) (b : Bool) (w : World) (wF : Word F) (wL : Word L) (wR : Word R) (h : mayB F L R = b) : Calls Tryz.prog 33 #[.agg #[.int .u64 F, .int .u64 L, .int .u64 R]] w fun e w' => e = .returned (.bool b) ∧ Below w.heap.size w w' := by
  rw [← h]; exact may_any F L R w

theorem bent_any (F L R : Int) (w : World) : Calls Tryz.prog 69 #[.agg #[.int .u64 F, .int .u64 L, .int .u64 R]] w fun e w' => e = .returned (.bool (decide (R < F))) ∧ Below w.heap.size w w' := by
  go_enter Tryz.func69, Tryz.ntmps69
  go_wp2_with fail
  go_ret
  exact ⟨rfl, by go_grown⟩
theorem bent_val (F L R : Int) (b : Bool) (w : World) (h : decide (R < F) = b) : Calls Tryz.prog 69 #[.agg #[.int .u64 F, .int .u64 L, .int .u64 R]] w fun e w' => e = .returned (.bool b) ∧ Below w.heap.size w w' := by
  rw [← h]; exact bent_any F L R w
def noneB (F L R : Int) : Bool := F == 0 && (L == 0 && R == 0)
/-- What a bent one begins above its second piece. -/
def burstN (F L R : Int) : Int := if R < F then stopN ((F - R) * L) else 0
theorem burst_any (F L R : Int) (w : World) (wF : Word F) (wL : Word L) (wR : Word R) : Calls Tryz.prog 117 #[.agg #[.int .u64 F, .int .u64 L, .int .u64 R]] w fun e w' => e = .returned (.tuple #[.int .u64 (burstN F L R), .bool (decide (R < F))]) ∧ Below w.heap.size w w' := by
  unfold burstN
  by_cases h : R < F
  · rw [if_pos h, decide_eq_true h]
    have BE := Lib.hid (fun w => bent_val F L R true w (decide_eq_true h))
    have w0 := wF.2
    have w1 := wR.1
    have hw : IntKind.u64.wrap (F - R) = F - R := by rw [IntKind.wrap_u64]; omega
    have TI := Lib.hid (fun w => times_any (F - R) L w ⟨by omega, by omega⟩ wL)
    obtain ⟨v, hv⟩ : ∃ v, stopN ((F - R) * L) = v := ⟨_, rfl⟩
    rw [hv] at TI ⊢
    clear hv
    obtain ⟨d, hd⟩ : ∃ d, F - R = d := ⟨_, rfl⟩
    rw [hd] at TI hw
    clear h
    go_enter Tryz.func117, Tryz.ntmps117
    go_wp2_with fail
    with_reducible refine (BE.out _).mono ?_
    rintro e w1 ⟨rfl, hb1⟩
    have Pm : Blk w1 (w.heap.size) 32 #[.int .u64 F, .int .u64 L, .int .u64 R] := Blk.next (by repeat (first | (refine Blk.new_at ?_; simp only [World.size_alloc]; done) | (with_reducible refine Blk.alloc ?_ _) | (with_reducible refine Blk.drewN ?_ _))) hb1
    have Pb := Pm
    clear Pm
    have Pc0 : World.cell? w1 ⟨w.heap.size, 0, none⟩ = some (.int .u64 F) := Pb.get 0 rfl
    have Pf0 := Blk.frozen Pb 0
    have Pc1 : World.cell? w1 ⟨w.heap.size, 1, none⟩ = some (.int .u64 L) := Pb.get 1 rfl
    have Pf1 := Blk.frozen Pb 1
    have Pc2 : World.cell? w1 ⟨w.heap.size, 2, none⟩ = some (.int .u64 R) := Pb.get 2 rfl
    have Pf2 := Blk.frozen Pb 2
    have Pn := Blk.lt Pb
    have B1 : Below w.heap.size w w1 := by first | with_reducible exact hb1 | exact Below.trans (by go_grown) (hb1.mono (by simp only [World.size_alloc]; omega))
    clear hb1
    go_wp2_with fail
    with_reducible refine (TI.out _).mono ?_
    rintro e w2 ⟨rfl, hb2⟩
    have Pm : Blk w2 (w.heap.size) 32 #[.int .u64 F, .int .u64 L, .int .u64 R] := Blk.next (by repeat (first | (with_reducible exact Pb) | (refine Blk.new_at ?_; simp only [World.size_alloc]; done) | (with_reducible refine Blk.alloc ?_ _) | (with_reducible refine Blk.drewN ?_ _))) hb2
    clear Pn Pb Pc0 Pf0 Pc1 Pf1 Pc2 Pf2
    have Pb := Pm
    clear Pm
    have Pc0 : World.cell? w2 ⟨w.heap.size, 0, none⟩ = some (.int .u64 F) := Pb.get 0 rfl
    have Pf0 := Blk.frozen Pb 0
    have Pc1 : World.cell? w2 ⟨w.heap.size, 1, none⟩ = some (.int .u64 L) := Pb.get 1 rfl
    have Pf1 := Blk.frozen Pb 1
    have Pc2 : World.cell? w2 ⟨w.heap.size, 2, none⟩ = some (.int .u64 R) := Pb.get 2 rfl
    have Pf2 := Blk.frozen Pb 2
    have Pn := Blk.lt Pb
    have B2 : Below w.heap.size w w2 := by first | with_reducible exact below_next B1 hb2 | exact below_step B1 (by go_grown) hb2
    clear hb2 B1
    go_wp2_with fail
    go_ret2
    exact ⟨by simp, B2⟩
  · rw [if_neg h, decide_eq_false h]
    have BE := Lib.hid (fun w => bent_val F L R false w (decide_eq_false h))
    go_enter Tryz.func117, Tryz.ntmps117
    go_wp2_with fail
    with_reducible refine (BE.out _).mono ?_
    rintro e w1 ⟨rfl, hb1⟩
    have B1 : Below w.heap.size w w1 := by first | with_reducible exact hb1 | exact Below.trans (by go_grown) (hb1.mono (by simp only [World.size_alloc]; omega))
    clear hb1
    go_wp2_with fail
    go_ret2
    exact ⟨by simp, B1⟩
theorem burst_val (F L R v : Int) (b : Bool) (w : World) (wF : Word F) (wL : Word L) (wR : Word R) (hb : decide (R < F) = b) (hv : burstN F L R = v) : Calls Tryz.prog 117 #[.agg #[.int .u64 F, .int .u64 L, .int .u64 R]] w fun e w' => e = .returned (.tuple #[.int .u64 v, .bool b]) ∧ Below w.heap.size w w' := by
  rw [← hb, ← hv]; exact burst_any F L R w wF wL wR

theorem reach_val (F L R y v : Int) (w : World) (hm : May F L R) (hy : Word y) (hv : reachN F L R y = v) :
    Calls Tryz.prog 139 #[.agg #[.int .u64 F, .int .u64 L, .int .u64 R], .int .u64 y] w fun e w' => e = .returned (.int .u64 v) ∧ Below w.heap.size w w' := by
  rw [← hv]; exact reach_any F L R y w hm hy
theorem times_val (a b v : Int) (w : World) (ha : Word a) (hb : Word b) (hv : stopN (a * b) = v) : Calls Tryz.prog 121 #[.int .u64 a, .int .u64 b] w fun e w' => e = .returned (.int .u64 v) ∧ Below w.heap.size w w' := by
  rw [← hv]; exact times_any a b w ha hb
end Go.Proofs.YtjhffbhjiflfeaaGreat
