/-
  What At, Steepest and Reach of a curve compute.
-/
import Derived.Test.YtdkeoanlcninkaaCurveA
import Derived.Test.YtdkeoanlcninkaaRatioC
namespace Go.Proofs.Ytdkeoanlcninkaa
set_option linter.unusedVariables false
set_option linter.unusedSimpArgs false
open Go.RowKit Go.Shelf

attribute [local go_sem] Oper.semAt_some

/-- What has come together, and what is left, behind some pieces. -/
def atFold (t : Int) (l : List Piece) : Int × Int := l.foldl (fun s x => (stopN (s.1 + stopN (x.1.1 * min s.2 x.1.2)), s.2 - min s.2 x.1.2)) (0, t)
theorem atFold_snoc (t : Int) (pre : List Piece) (x : Piece) : atFold t (pre ++ [x]) = (stopN ((atFold t pre).1 + stopN (x.1.1 * min (atFold t pre).2 x.1.2)), (atFold t pre).2 - min (atFold t pre).2 x.1.2) := by simp [atFold]
theorem atFold_bounds {t : Int} (ht : Word t) (l : List Piece) : (0 ≤ (atFold t l).1 ∧ (atFold t l).1 ≤ 4611686018427387904) ∧ 0 ≤ (atFold t l).2 ∧ (atFold t l).2 ≤ t := by
  have h : ∀ (l : List Piece) (s : Int × Int), (0 ≤ s.1 ∧ s.1 ≤ 4611686018427387904) → (0 ≤ s.2 ∧ s.2 ≤ t) →
      (0 ≤ (l.foldl (fun s x => (stopN (s.1 + stopN (x.1.1 * min s.2 x.1.2)), s.2 - min s.2 x.1.2)) s).1 ∧ (l.foldl (fun s x => (stopN (s.1 + stopN (x.1.1 * min s.2 x.1.2)), s.2 - min s.2 x.1.2)) s).1 ≤ 4611686018427387904) ∧
      0 ≤ (l.foldl (fun s x => (stopN (s.1 + stopN (x.1.1 * min s.2 x.1.2)), s.2 - min s.2 x.1.2)) s).2 ∧ (l.foldl (fun s x => (stopN (s.1 + stopN (x.1.1 * min s.2 x.1.2)), s.2 - min s.2 x.1.2)) s).2 ≤ t := by
    intro l
    induction l with
    | nil => intro s h1 h2; exact ⟨h1, h2⟩
    | cons x l ih =>
      intro s h1 h2
      have hx1 := x.2.1.1
      have hx2 := x.2.2.1
      refine ih _ ⟨?_, stop_le _⟩ ⟨?_, ?_⟩
      · have := stop_nonneg (Int.mul_nonneg hx1 (show 0 ≤ min s.2 x.1.2 by omega))
        exact stop_nonneg (by omega)
      · dsimp only; omega
      · dsimp only; omega
  exact h l (0, t) ⟨Int.le_refl _, by simp⟩ ⟨ht.1, Int.le_refl _⟩
theorem atFold_all {F L R t : Int} (hF : Word F) (hL : Word L) (hR : Word R) (ht : Word t) : (atFold t (piecesOf F L R hF hL hR)).1 = atN F L R t := by
  have f0 := hF.1
  have l0 := hL.1
  have r0 := hR.1
  have t0 := ht.1
  have t1 := ht.2
  unfold piecesOf atFold atN rawN
  by_cases h : 0 < L
  · rw [if_pos h]
    simp only [List.foldl_cons, List.foldl_nil]
    have e : min (t - min t L) 18446744073709551615 = t - min t L := by omega
    have p1 := Int.mul_nonneg f0 (show 0 ≤ min t L by omega)
    have p2 := Int.mul_nonneg r0 (show 0 ≤ t - min t L by omega)
    have q1 := stop_nonneg p1
    rw [e, Int.zero_add, stop_small (stop_le (F * min t L)), stop_stop p1 p2]
  · rw [if_neg h]
    simp only [List.foldl_cons, List.foldl_nil]
    have e0 : L = 0 := by omega
    subst e0
    have e : min t 18446744073709551615 = t := by omega
    have e1 : min t 0 = 0 := by omega
    rw [e, e1, Int.sub_zero, Int.mul_zero, Int.zero_add, Int.zero_add, stop_small (stop_le _)]

set_option maxRecDepth 100000 in
set_option maxHeartbeats 4000000 in
theorem at_any (F L R t : Int) (w : World) (hF : Word F) (hL : Word L) (hR : Word R) (ht : Word t) :
    Calls Try.prog 12 #[.agg #[.int .u64 F, .int .u64 L, .int .u64 R], .int .u64 t] w fun e w' => e = .returned (.int .u64 (atN F L R t)) ∧ Below w.heap.size w w' := by
  have HA := Lib.hid (atFold_all hF hL hR ht)
  refine (callsIn_wide (n := 6)).1 ?_
  refine callsIn_of_wp_marks Try.func12 rfl trivial ?_ rfl
  simp only [Try.ntmps12, List.size_toArray, List.length_cons, List.length_nil, Nat.reduceAdd, Nat.reduceSub, Array.replicate_succ, Array.replicate_zero, List.push_toArray, List.append_toArray, List.nil_append, List.cons_append]
  gi_wp2_with (refine ⟨trivial, ?_⟩; gi_at_call 32; refine (callsIn_wide.2 (pieces_any F L R _)).mono ?_; rintro e w' ⟨rfl, rfl⟩)
  have bC := ((Blk.new w 24 #[.int .u64 F, .int .u64 L, .int .u64 R]).alloc (.cells #[.int .u64 t] 22)).alloc (.cells #[.int .u64 0] 22)
  have bT := ((Blk.new (w.alloc (.cells #[.int .u64 F, .int .u64 L, .int .u64 R] 24)) 22 #[.int .u64 t]).alloc (.cells #[.int .u64 0] 22)).alloc (.cells #[.int .u64 F, .int .u64 L, .int .u64 R] 24)
  have bS := (Blk.new ((w.alloc (.cells #[.int .u64 F, .int .u64 L, .int .u64 R] 24)).alloc (.cells #[.int .u64 t] 22)) 22 #[.int .u64 0]).alloc (.cells #[.int .u64 F, .int .u64 L, .int .u64 R] 24)
  have bP := Blk.new (((w.alloc (.cells #[.int .u64 F, .int .u64 L, .int .u64 R] 24)).alloc (.cells #[.int .u64 t] 22)).alloc (.cells #[.int .u64 0] 22)) 24 #[.int .u64 F, .int .u64 L, .int .u64 R]
  clear bC
  simp only [World.size_alloc] at bT bS bP
  have hB0 : Below w.heap.size w ((((w.alloc (.cells #[.int .u64 F, .int .u64 L, .int .u64 R] 24)).alloc (.cells #[.int .u64 t] 22)).alloc (.cells #[.int .u64 0] 22)).alloc (.cells #[.int .u64 F, .int .u64 L, .int .u64 R] 24)) := by go_grown
  have hsz : ((((w.alloc (.cells #[.int .u64 F, .int .u64 L, .int .u64 R] 24)).alloc (.cells #[.int .u64 t] 22)).alloc (.cells #[.int .u64 0] 22)).alloc (.cells #[.int .u64 F, .int .u64 L, .int .u64 R] 24)).heap.size = w.heap.size + 4 := by simp
  obtain ⟨W0, hW0⟩ : ∃ W0, (((w.alloc (.cells #[.int .u64 F, .int .u64 L, .int .u64 R] 24)).alloc (.cells #[.int .u64 t] 22)).alloc (.cells #[.int .u64 0] 22)).alloc (.cells #[.int .u64 F, .int .u64 L, .int .u64 R] 24) = W0 := ⟨_, rfl⟩
  rw [hW0] at bT bS bP hB0 hsz ⊢
  clear hW0
  refine wpIn_rangeFunc_ownH rfl (by omega) (gf := 46) (lb := #[.pointer (some ⟨w.heap.size + 1 + 1 + 1, 0, none⟩)]) rfl trivial (enters_of Try.func46 (by kernel_rfl) rfl)
    (pieces_stops 5 (by omega) (w.heap.size + 1 + 1 + 1) F L R hF hL hR W0 bP) KeepsB.trans (KeepsB.put (by omega)) (Below.refl _ _) (fun _ => rfl)
    (fun pre W => (Blk W (w.heap.size + 1) 22 #[.int .u64 (atFold t pre).2] ∧ Blk W (w.heap.size + 1 + 1) 22 #[.int .u64 (atFold t pre).1]) ∧ Below w.heap.size w W ∧ w.heap.size + 4 ≤ W.heap.size)
    (fun _ _ _ => False)
    (OwnFrom.and (OwnFrom.and (Own.from (Blk.own _ _ _) _) (Own.from (Blk.own _ _ _) _)) (OwnFrom.and (ownFrom_below (Nat.le_refl _) (by omega)) (ownFrom_size _ _)))
    (fun _ _ _ _ _ hs _ _ => hs)
    ⟨⟨bT, bS⟩, hB0, by omega⟩
    (fun x a' W => ∃ Bx, w.heap.size + 4 ≤ Bx ∧ Blk W Bx 65 #[.int .u64 x.1.1, .int .u64 x.1.2] ∧ a' = { tmps := #[.agg #[.int .u64 F, .int .u64 L, .int .u64 R], .int .u64 t, .pointer (some ⟨w.heap.size, 0, none⟩), .pointer (some ⟨w.heap.size + 1, 0, none⟩), .int .u64 0, .pointer (some ⟨w.heap.size + 1 + 1, 0, none⟩), .pointer (some ⟨Bx, 0, none⟩), undef, .agg #[.int .u64 F, .int .u64 L, .int .u64 R], .func (.func 46) #[] #[.pointer (some ⟨w.heap.size + 1 + 1 + 1, 0, none⟩)], .agg #[.int .u64 x.1.1, .int .u64 x.1.2], undef, undef, undef, undef, undef, undef, undef, undef, undef, undef, undef, undef, undef, undef], defers := [] })
    (fun x a' _ X Y row hs hg hr => by obtain ⟨Bx, h1, h2, h3⟩ := hs; exact ⟨Bx, h1, Blk.own Bx _ (fun (_ : Unit) => #[Value.int .u64 x.1.1, .int .u64 x.1.2]) () X Y row h2 hg (fun r e => (hr r e).2), h3⟩)
    ?assign ?body ?done ?stop
  case assign =>
    rintro l pre x W K ⟨⟨bT1, bS1⟩, hB1, hn1⟩ hK
    dsimp only [encPiece]
    gi_wp2
    exact hK _ _ ((KeepsOthers.alloc _ _).from _) (KeepsB.alloc (by omega) _) ⟨⟨bT1.alloc _, bS1.alloc _⟩, hB1.alloc hB1.size _, by simp only [World.size_alloc]; omega⟩ ⟨W.heap.size, hn1, Blk.new W _ _, rfl⟩
  case body =>
    rintro l pre x a' W hl ⟨r, hr⟩ ⟨⟨bT1, bS1⟩, hB1, hn1⟩ ⟨Bx, hBx, bX, rfl⟩ hlt
    obtain ⟨⟨k1, k2⟩, k3, k4⟩ := atFold_bounds ht pre
    obtain ⟨n1, n2⟩ := x.2.1
    obtain ⟨n3, n4⟩ := x.2.2
    have wt1 := ht.2
    have SN := Lib.hid (atFold_snoc t pre x)
    obtain ⟨s, es⟩ : ∃ s, (atFold t pre).1 = s := ⟨_, rfl⟩
    obtain ⟨u, eu⟩ : ∃ s, (atFold t pre).2 = s := ⟨_, rfl⟩
    rw [es] at bS1 k1 k2 SN
    rw [eu] at bT1 k3 k4 SN
    clear es eu
    obtain ⟨⟨sl, lo⟩, hx⟩ := x
    dsimp only at n1 n2 n3 n4 bX SN
    have cT : W.cell? ⟨w.heap.size + 1, 0, none⟩ = some (.int .u64 u) := bT1.get 0 rfl
    have fT := Blk.frozen bT1 0
    have cX0 : W.cell? ⟨Bx, 0, none⟩ = some (.int .u64 sl) := bX.get 0 rfl
    have cX1 : W.cell? ⟨Bx, 1, none⟩ = some (.int .u64 lo) := bX.get 1 rfl
    have cS : W.cell? ⟨w.heap.size + 1 + 1, 0, none⟩ = some (.int .u64 s) := bS1.get 0 rfl
    have fS := Blk.frozen bS1 0
    have hd : 1 ≤ 6 - 1 - 1 := by omega
    have hmx : Try.prog.follows .mixedOrders = true := by kernel_rfl
    have wm : Word (min u lo) := ⟨by omega, by omega⟩
    have wd := stop_nonneg (Int.mul_nonneg n1 wm.1)
    have wd1 := stop_le (sl * min u lo)
    gi_wp2
    obtain ⟨m, hm⟩ : ∃ m, min u lo = m := ⟨_, rfl⟩
    rw [hm] at SN wm wd wd1 ⊢
    have hm1 : m ≤ u := by omega
    have hw : IntKind.u64.wrap (u - m) = u - m := by have := wm.1; rw [IntKind.wrap_u64]; omega
    have TI := Lib.hid (fun w => times_any sl m w ⟨n1, n2⟩ wm)
    obtain ⟨d, ed⟩ : ∃ d, stopN (sl * m) = d := ⟨_, rfl⟩
    rw [ed] at SN wd wd1 TI
    have PL := Lib.hid (fun w => plus_any s d w ⟨by omega, by omega⟩ ⟨by omega, by omega⟩)
    clear hm ed
    obtain ⟨v, ev⟩ : ∃ v, stopN (s + d) = v := ⟨_, rfl⟩
    rw [ev] at SN PL
    clear ev
    gi_region_with_o (first
      | (refine ⟨trivial, ?_⟩; gi_at_call 27; refine (CallsIn.inRound l (callsIn_wide.2 (TI.out _))).mono ?_; rintro e W2 ⟨rfl, hb2⟩; have c2 : W2.cell? ⟨w.heap.size + 1 + 1, 0, none⟩ = some (.int .u64 s) := (hb2.cell (p := ⟨w.heap.size + 1 + 1, 0, none⟩) (Blk.lt bS1)).trans cS; have f2 := (hb2.frozen (p := ⟨w.heap.size + 1 + 1, 0, none⟩) (Blk.lt bS1)).trans fS)
      | (refine ⟨trivial, ?_⟩; gi_at_call 26; refine (CallsIn.inRound l (callsIn_wide.2 (PL.out _))).mono ?_; rintro e W3 ⟨rfl, rfl⟩))
    all_goals have bS2 := Blk.next (Blk.drew bS1) hb2
    all_goals have bT2 := Blk.next (Blk.drew bT1) hb2
    all_goals have n2' : W.heap.size ≤ W2.heap.size := hb2.size
    all_goals have kb : KeepsB (w.heap.size + 1 + 1 + 1) W W2 := KeepsB.below (W := W.drew) hb2 (by show _ < W.heap.size; omega)
    all_goals have ko : KeepsOthers W W2 := (KeepsOthers.drew W).trans (KeepsOthers.of_below hb2)
    all_goals have hB2 : Below w.heap.size w W2 := (below_of_drew hB1).trans (hb2.mono hB1.size)
    all_goals clear hb2 TI PL
    all_goals have cS2 : W2.cell? ⟨w.heap.size + 1 + 1, 0, none⟩ = some (.int .u64 s) := bS2.get 0 rfl
    all_goals have fS2 := Blk.frozen bS2 0
    all_goals have cT2 : W2.cell? ⟨w.heap.size + 1, 0, none⟩ = some (.int .u64 u) := bT2.get 0 rfl
    all_goals have fT2 := Blk.frozen bT2 0
    all_goals gi_wp2
    all_goals (exact ⟨(ko.trans ((KeepsOthers.setCell _ _ _).trans (KeepsOthers.setCell _ _ _))).from _, kb.trans ((KeepsB.far _ (p := ⟨w.heap.size + 1 + 1, 0, none⟩) (show w.heap.size + 1 + 1 + 1 ≠ w.heap.size + 1 + 1 by omega) _).trans (KeepsB.far _ (p := ⟨w.heap.size + 1, 0, none⟩) (show w.heap.size + 1 + 1 + 1 ≠ w.heap.size + 1 by omega) _)), ⟨⟨by rw [SN.out]; exact (bT2.far (p := ⟨w.heap.size + 1 + 1, 0, none⟩) (show w.heap.size + 1 ≠ w.heap.size + 1 + 1 by omega) _).put 0 _, by rw [SN.out]; exact (bS2.put 0 (.int .u64 v)).far (p := ⟨w.heap.size + 1, 0, none⟩) (show w.heap.size + 1 + 1 ≠ w.heap.size + 1 by omega) _⟩, (hB2.setCell (p := ⟨w.heap.size + 1 + 1, 0, none⟩) (show w.heap.size ≤ w.heap.size + 1 + 1 by omega) _).setCell (p := ⟨w.heap.size + 1, 0, none⟩) (show w.heap.size ≤ w.heap.size + 1 by omega) _, by simp; omega⟩⟩)
  case done =>
    rintro D ys W hD rfl ⟨⟨bT1, bS1⟩, hB1, hn1⟩ hK
    have cS : W.cell? ⟨w.heap.size + 1 + 1, 0, none⟩ = some (.int .u64 (atFold t (piecesOf F L R hF hL hR)).1) := bS1.get 0 rfl
    rw [HA.out] at cS
    gi_wp2
    refine ⟨by simp, .inl ⟨_, _, rfl, run_takeDeferred hK, ?_⟩⟩
    exact ⟨_, results_tmp rfl _ _ _, rfl, hB1.trans (belowK_b (w := w) (Nat.le_refl _) W D _ _ (by omega) hK rfl rfl)⟩
  case stop =>
    rintro D c pre W _ _ h _
    exact h.elim

end Go.Proofs.Ytdkeoanlcninkaa
