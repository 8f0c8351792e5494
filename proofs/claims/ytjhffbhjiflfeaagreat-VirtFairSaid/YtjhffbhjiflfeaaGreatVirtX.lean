/-
  A turn of a family of straight curves.
-/
import Derived.Test.YtjhffbhjiflfeaaGreatVirtW
namespace Go.Proofs.YtjhffbhjiflfeaaGreat
set_option linter.unusedVariables false
set_option linter.unusedSimpArgs false
set_option maxRecDepth 100000
open Go.RowKit Go.Shelf

theorem tmod_bounds {a m : Int} (ha : 0 ≤ a) (hm : 0 < m) : 0 ≤ a.tmod m ∧ a.tmod m < m := by
  rw [Int.tmod_eq_emod_of_nonneg ha]
  exact ⟨Int.emod_nonneg _ (by omega), Int.emod_lt_of_pos _ hm⟩
def slopeN (s : Int) : Int := 1 + s.tmod 4096
def grainsN (b : Int) : Int := (1 + b.tmod 1500) * 256
theorem slope_bounds {s : Int} (h : 0 ≤ s) : 1 ≤ slopeN s ∧ slopeN s ≤ 4096 := by have := tmod_bounds h (m := 4096) (by decide); unfold slopeN; omega
theorem grains_bounds {b : Int} (h : 0 ≤ b) : 256 ≤ grainsN b ∧ grainsN b ≤ 384000 := by have := tmod_bounds h (m := 1500) (by decide); unfold grainsN; omega
set_option maxHeartbeats 2000000 in
theorem slope_any (k id s b : Int) (w : World) (hs : 0 ≤ s) (hs1 : s ≤ 65535) : Calls Tryz.prog 27 #[.agg #[.int .u8 k, .int .i64 id, .int .u16 s, .int .u16 b]] w fun e w' => e = .returned (.int .u64 (slopeN s)) ∧ Below w.heap.size w w' := by
  have hq := tmod_bounds hs (m := 4096) (by decide)
  obtain ⟨q, eq⟩ : ∃ z, s.tmod 4096 = z := ⟨_, rfl⟩
  have e1 : IntKind.u64.wrap q = q := by rw [IntKind.wrap_u64]; omega
  have e2 : IntKind.u64.wrap (1 + q) = 1 + q := by rw [IntKind.wrap_u64]; omega
  have e3 : IntKind.u16.wrap q = q := by rw [IntKind.wrap_u16]; omega
  have HE : Hid (slopeN s = 1 + q) := by unfold Hid slopeN; rw [eq]
  clear hq hs hs1
  go_enter Tryz.func27, Tryz.ntmps27
  go_wp2_with fail
  go_ret
  exact ⟨by rw [HE.out]; simp, by go_grown⟩
set_option maxHeartbeats 2000000 in
theorem grains_any (k id s b : Int) (w : World) (hs : 0 ≤ b) (hs1 : b ≤ 65535) : Calls Tryz.prog 28 #[.agg #[.int .u8 k, .int .i64 id, .int .u16 s, .int .u16 b]] w fun e w' => e = .returned (.int .u64 (grainsN b)) ∧ Below w.heap.size w w' := by
  have hq := tmod_bounds hs (m := 1500) (by decide)
  obtain ⟨q, eq⟩ : ∃ z, b.tmod 1500 = z := ⟨_, rfl⟩
  have e1 : IntKind.u64.wrap q = q := by rw [IntKind.wrap_u64]; omega
  have e2 : IntKind.u64.wrap (1 + q) = 1 + q := by rw [IntKind.wrap_u64]; omega
  have e3 : IntKind.u16.wrap q = q := by rw [IntKind.wrap_u16]; omega
  have e4 : IntKind.u64.wrap ((1 + q) * 256) = (1 + q) * 256 := by rw [IntKind.wrap_u64]; omega
  have HE : Hid (grainsN b = (1 + q) * 256) := by unfold Hid grainsN; rw [eq]
  clear hq hs hs1
  go_enter Tryz.func28, Tryz.ntmps28
  go_wp2_with fail
  go_ret
  exact ⟨by rw [HE.out]; simp, by go_grown⟩
set_option maxHeartbeats 2000000 in
theorem upLaw_any (a b : Int) (w : World) (ha : 0 ≤ a) (ha1 : a ≤ 1000000) (hb : 1 ≤ b) (hb1 : b ≤ 4096) : Calls Tryz.prog 31 #[.int .u64 a, .int .u64 b] w fun e w' => e = .returned (.int .u64 ((a + b - 1) / b)) ∧ w = w' := by
  have e1 : IntKind.u64.wrap (a + b) = a + b := by rw [IntKind.wrap_u64]; omega
  have e2 : IntKind.u64.wrap (a + b - 1) = a + b - 1 := by rw [IntKind.wrap_u64]; omega
  have e3 : (a + b - 1).tdiv b = (a + b - 1) / b := Int.tdiv_eq_ediv_of_nonneg (by omega)
  have q0 : 0 ≤ (a + b - 1) / b := Int.ediv_nonneg (by omega) (by omega)
  have q1 : (a + b - 1) / b ≤ a := up_le_self hb ha
  obtain ⟨q, eq⟩ : ∃ z, (a + b - 1) / b = z := ⟨_, rfl⟩
  rw [eq] at e3 q0 q1 ⊢
  have e4 : IntKind.u64.wrap q = q := by rw [IntKind.wrap_u64]; omega
  have hb0 : ¬ b = 0 := by omega
  have hb2 : (b == 0) = false := beq_eq_false_iff_ne.2 hb0
  clear eq q0 q1 ha ha1 hb hb1
  go_enter Tryz.func31, Tryz.ntmps31
  go_wp2_with fail
  go_ret
  exact ⟨by simp, rfl⟩

set_option maxHeartbeats 16000000 in
theorem does_any (B : Nat) (w0 w : World) (f mb N i : Nat) (S : FS) (l M k id s b : Int) (h : FamIn B w0 w f mb S) (ok : S.ok N) (st : Strt l M i S) (hN : N ≤ 1000) (hi : i + 1 ≤ 1000) (hs : 0 ≤ s) (hs1 : s ≤ 65535) (hb : 0 ≤ b) (hb1 : b ≤ 65535) (hl : k.tmod 5 = 0 → l ≤ slopeN s) :
    Calls Tryz.prog 30 #[.pointer (some ⟨f, 0, none⟩), .agg #[.int .u8 k, .int .i64 id, .int .u16 s, .int .u16 b]] w fun e w' => ∃ (who gg : Int) (S' : FS), e = .returned (.tuple #[.int .i64 who, .int .u64 gg]) ∧ 0 ≤ gg ∧ gg ≤ 384000 ∧
      FamIn B w0 w' f mb S' ∧ S'.ok (N + 1) ∧ Strt l (max M gg) (i + 1) S' ∧ Spares w w' := by
  have SL := Lib.hid (fun w => slope_any k id s b w hs hs1)
  have GR := Lib.hid (fun w => grains_any k id s b w hb hb1)
  have sb := slope_bounds hs
  have gb := grains_bounds hb
  obtain ⟨gg, egg⟩ : ∃ z, grainsN b = z := ⟨_, rfl⟩
  obtain ⟨sl, esl⟩ : ∃ z, slopeN s = z := ⟨_, rfl⟩
  rw [egg] at GR gb
  rw [esl] at SL sb hl
  have HGB := Lib.hid (show 0 ≤ gg ∧ gg ≤ 384000 from ⟨by omega, gb.2⟩)
  have HGW := Lib.hid (show Word gg from ⟨by omega, by omega⟩)
  have HSB := Lib.hid (And.intro sb hl)
  have HN := Lib.hid hN
  have HII := Lib.hid hi
  obtain ⟨wt, hwt⟩ : ∃ z, w.alloc (.cells #[.int .u8 k, .int .i64 id, .int .u16 s, .int .u16 b] 56) = z := ⟨_, rfl⟩
  have hbt : Below w.heap.size w wt := by rw [← hwt]; go_grown
  have bT : Blk wt w.heap.size 56 #[.int .u8 k, .int .i64 id, .int .u16 s, .int .u16 b] := by rw [← hwt]; exact Blk.new w _ _
  have H0 := Lib.hid (And.intro (h.next hbt) (And.intro ok (And.intro st (And.intro (Spares.of_below hbt) bT))))
  have HEQ := Lib.hid hwt
  have z0 := bT.get 0 rfl
  have z1 := bT.get 1 rfl
  have z2 := bT.get 2 rfl
  have z3 := bT.get 3 rfl
  clear hs hs1 hb hb1 egg esl gb sb hl hN hi hwt hbt bT h ok st
  obtain ⟨TB, hTB⟩ : ∃ z, w.heap.size = z := ⟨_, rfl⟩
  rw [hTB] at H0 z0 z1 z2 z3
  have HTB := Lib.hid hTB
  clear hTB
  obtain ⟨r, hr⟩ : ∃ r, k.tmod 5 = r := ⟨_, rfl⟩
  have HR := Lib.hid hr
  obtain ⟨id8, hid8⟩ : ∃ r, id.tmod 8 = r := ⟨_, rfl⟩
  go_enter Tryz.func30, Tryz.ntmps30
  go_upto_region 1 with (fail)
  rw [HEQ.out, HTB.out]
  by_cases h0 : r = 0
  · subst h0
    go_wp2_with fail
    with_reducible refine (SL.out wt).mono ?_
    rintro e w1 ⟨rfl, hb1⟩
    have AD := Lib.hid (fi_add id8 0 0 sl (H0.out.1.next hb1) (by decide) (by decide) ⟨by have := HSB.out.1; omega, by have := HSB.out.1; omega⟩)
    have HB1 := Lib.hid hb1
    clear hb1 z0 z1 z2 z3
    go_wp2_with fail
    with_reducible refine (AD.out).mono ?_
    rintro e w2 ⟨rfl, S1, had, hf1, hs1⟩
    have H1 := Lib.hid (And.intro hf1 (And.intro (added_ok had H0.out.2.1).1 (And.intro (H0.out.2.2.1.added H0.out.2.1 had (by have := HSB.out.1; omega) (HSB.out.2 HR.out) HSB.out.1.2) (And.intro (H0.out.2.2.2.1.trans ((Spares.of_below HB1.out).trans hs1)) (hs1 TB _ _ (by decide) (by decide) (by decide) (by decide) (H0.out.2.2.2.2.next HB1.out))))))
    clear had hf1 hs1 AD
    go_wp2_with fail
    with_reducible refine (fi_ids H1.out.1 H1.out.2.1 (by have := HN.out; omega)).mono ?_
    rintro e wi ⟨v, D, rfl, hL, hown, hbi⟩
    obtain ⟨A', c', rfl, -, hrow⟩ := row_form hown
    have HI := Lib.hid (And.intro (H1.out.1.next hbi) (And.intro (H1.out.2.2.2.2.next hbi) (And.intro hL (H1.out.2.2.2.1.trans (Spares.of_below hbi)))))
    have HROW := Lib.hid hrow
    obtain ⟨n, hn⟩ : ∃ n, D.length = n := ⟨_, rfl⟩
    have HLN := Lib.hid hn
    clear hL hown hbi hrow
    rw [hn]
    clear hn
    rcases Nat.eq_zero_or_pos n with hz | hz
    · subst hz
      go_wp2_with fail
      go_returns
      exact ⟨-1, 0, S1, rfl, Int.le_refl _, by decide, HI.out.1, H1.out.2.1, H1.out.2.2.1.more (by omega) (by have := H1.out.2.2.1.m1; omega) (Nat.le_succ _) HII.out, HI.out.2.2.2⟩
    · have hn := HLN.out
      obtain ⟨g', cs, rfl, -, hbg, hcs⟩ := HROW.out (by omega)
      have hv := H1.out.2.1.vok
      have f0 := (ids_first HI.out.2.2.1 hv (j := 0) (by omega)).1 rfl
      have i0 := HI.out.2.2.1.1.subset (List.getElem_mem (show 0 < D.length by omega))
      have q0 : cs[0]? = some (.int .i64 (D[0]'(by omega)).id) := hcs 0 _ (by rw [List.getElem?_map, List.getElem?_eq_getElem (by omega)]; rfl)
      generalize (D[0]'(by omega)) = y0 at f0 i0 q0
      have HY := Lib.hid (And.intro f0 (And.intro i0 (And.intro hbg q0)))
      have g1 : decide ((0 : Int) < (n : Int)) = true := decide_eq_true (by omega)
      have g2 : ((n : Int) == 0) = false := beq_eq_false_iff_ne.2 (by omega)
      have g3 : decide (n = 0) = false := decide_eq_false (by omega)
      have g4 : (n == 0) = false := beq_eq_false_iff_ne.2 (by omega)
      have g5 : (0 : Int) < (n : Int) := by omega
      have GA := Lib.hid (fun w' (hb : Below wi.heap.size wi w') => fi_gain y0.id gg (HI.out.1.next hb) H1.out.2.1 (by have := HN.out; omega) HGW.out)
      clear hn hbg hcs hv f0 i0 q0
      go_upto_region 15 with (fail)
      have KP : Hid (∀ w', Below (wi.heap.size) wi w' → (w'.cell? ⟨g', 0, none⟩ = some (.int .i64 y0.id) ∧ w'.cell? ⟨TB, 0, none⟩ = some (.int .u8 k) ∧ w'.cell? ⟨TB, 1, none⟩ = some (.int .i64 id) ∧ w'.cell? ⟨TB, 2, none⟩ = some (.int .u16 s) ∧ w'.cell? ⟨TB, 3, none⟩ = some (.int .u16 b)) ∧ Below (wi.heap.size) wi w') := fun w' hb => ⟨⟨(HY.out.2.2.1.next hb).get 0 HY.out.2.2.2, (HI.out.2.1.next hb).get 0 rfl, (HI.out.2.1.next hb).get 1 rfl, (HI.out.2.1.next hb).get 2 rfl, (HI.out.2.1.next hb).get 3 rfl⟩, hb⟩
      refine wp_region_noPanic ?_
      refine wp_region_Z [6] (fun w' => (w'.cell? ⟨g', 0, none⟩ = some (.int .i64 y0.id) ∧ w'.cell? ⟨TB, 0, none⟩ = some (.int .u8 k) ∧ w'.cell? ⟨TB, 1, none⟩ = some (.int .i64 id) ∧ w'.cell? ⟨TB, 2, none⟩ = some (.int .u16 s) ∧ w'.cell? ⟨TB, 3, none⟩ = some (.int .u16 b)) ∧ Below (wi.heap.size) wi w') (by kernel_rfl) (KP.out _ (below_of_drew ((Below.refl wi.heap.size wi)))) (fun hH => ?_)
      have hbR := below_of_drew ((Below.refl wi.heap.size wi))
      first | (refine wpAnyZ_takeC (i := 0) (v := undef) rfl ?_ ?_ ?_ ?_ (fun _ _ _ h => h) ?_ ?_ ?_; kernel_rfl; kernel_rfl; kernel_rfl; kernel_rfl; exact Or.inr ⟨by rfl, rfl⟩; exact hH) | (refine wpAnyZ_takeC (i := 0) (v := ?_) rfl ?_ ?_ ?_ ?_ (fun _ _ _ h => h) ?_ ?_ ?_; rotate_left; kernel_rfl; kernel_rfl; kernel_rfl; kernel_rfl; (focus (refine Or.inl ⟨by rfl, ?_⟩; intro w' hSw; (try dsimp only at hSw); go_simp)); exact hH) | (refine wpAnyZ_takeC (i := 0) (v := ?_) rfl ?_ ?_ ?_ ?_ (fun _ _ _ h => h) ?_ ?_ ?_; rotate_left; kernel_rfl; kernel_rfl; kernel_rfl; kernel_rfl; (focus (refine Or.inl ⟨by rfl, ?_⟩; intro w' hSw; (try dsimp only at hSw); go_simp; with_reducible rfl)); exact hH)
      try simp only [Act.put, List.getElem_toArray, List.getElem_cons_succ, List.getElem_cons_zero, List.setIfInBounds_toArray, List.set_cons_zero, List.set_cons_succ]
      first | (refine wpAnyZ_takeC (i := 1) (v := undef) rfl ?_ ?_ ?_ ?_ (fun _ _ _ h => h) ?_ ?_ ?_; kernel_rfl; kernel_rfl; kernel_rfl; kernel_rfl; exact Or.inr ⟨by rfl, rfl⟩; exact hH) | (refine wpAnyZ_takeC (i := 1) (v := ?_) rfl ?_ ?_ ?_ ?_ (fun _ _ _ h => h) ?_ ?_ ?_; rotate_left; kernel_rfl; kernel_rfl; kernel_rfl; kernel_rfl; (focus (refine Or.inl ⟨by rfl, ?_⟩; intro w' hSw; (try dsimp only at hSw); go_simp)); exact hH) | (refine wpAnyZ_takeC (i := 1) (v := ?_) rfl ?_ ?_ ?_ ?_ (fun _ _ _ h => h) ?_ ?_ ?_; rotate_left; kernel_rfl; kernel_rfl; kernel_rfl; kernel_rfl; (focus (refine Or.inl ⟨by rfl, ?_⟩; intro w' hSw; (try dsimp only at hSw); go_simp; with_reducible rfl)); exact hH)
      try simp only [Act.put, List.getElem_toArray, List.getElem_cons_succ, List.getElem_cons_zero, List.setIfInBounds_toArray, List.set_cons_zero, List.set_cons_succ]
      first | (refine wpAnyZ_takeC (i := 2) (v := undef) rfl ?_ ?_ ?_ ?_ (fun _ _ _ h => h) ?_ ?_ ?_; kernel_rfl; kernel_rfl; kernel_rfl; kernel_rfl; exact Or.inr ⟨by rfl, rfl⟩; exact hH) | (refine wpAnyZ_takeC (i := 2) (v := ?_) rfl ?_ ?_ ?_ ?_ (fun _ _ _ h => h) ?_ ?_ ?_; rotate_left; kernel_rfl; kernel_rfl; kernel_rfl; kernel_rfl; (focus (refine Or.inl ⟨by rfl, ?_⟩; intro w' hSw; (try dsimp only at hSw); go_simp)); exact hH) | (refine wpAnyZ_takeC (i := 2) (v := ?_) rfl ?_ ?_ ?_ ?_ (fun _ _ _ h => h) ?_ ?_ ?_; rotate_left; kernel_rfl; kernel_rfl; kernel_rfl; kernel_rfl; (focus (refine Or.inl ⟨by rfl, ?_⟩; intro w' hSw; (try dsimp only at hSw); go_simp; with_reducible rfl)); exact hH)
      try simp only [Act.put, List.getElem_toArray, List.getElem_cons_succ, List.getElem_cons_zero, List.setIfInBounds_toArray, List.set_cons_zero, List.set_cons_succ]
      first | (refine wpAnyZ_takeC (i := 3) (v := undef) rfl ?_ ?_ ?_ ?_ (fun _ _ _ h => h) ?_ ?_ ?_; kernel_rfl; kernel_rfl; kernel_rfl; kernel_rfl; exact Or.inr ⟨by rfl, rfl⟩; exact hH) | (refine wpAnyZ_takeC (i := 3) (v := ?_) rfl ?_ ?_ ?_ ?_ (fun _ _ _ h => h) ?_ ?_ ?_; rotate_left; kernel_rfl; kernel_rfl; kernel_rfl; kernel_rfl; (focus (refine Or.inl ⟨by rfl, ?_⟩; intro w' hSw; (try dsimp only at hSw); go_simp)); exact hH) | (refine wpAnyZ_takeC (i := 3) (v := ?_) rfl ?_ ?_ ?_ ?_ (fun _ _ _ h => h) ?_ ?_ ?_; rotate_left; kernel_rfl; kernel_rfl; kernel_rfl; kernel_rfl; (focus (refine Or.inl ⟨by rfl, ?_⟩; intro w' hSw; (try dsimp only at hSw); go_simp; with_reducible rfl)); exact hH)
      try simp only [Act.put, List.getElem_toArray, List.getElem_cons_succ, List.getElem_cons_zero, List.setIfInBounds_toArray, List.set_cons_zero, List.set_cons_succ]
      first | (refine wpAnyZ_takeC (i := 4) (v := undef) rfl ?_ ?_ ?_ ?_ (fun _ _ _ h => h) ?_ ?_ ?_; kernel_rfl; kernel_rfl; kernel_rfl; kernel_rfl; exact Or.inr ⟨by rfl, rfl⟩; exact hH) | (refine wpAnyZ_takeC (i := 4) (v := ?_) rfl ?_ ?_ ?_ ?_ (fun _ _ _ h => h) ?_ ?_ ?_; rotate_left; kernel_rfl; kernel_rfl; kernel_rfl; kernel_rfl; (focus (refine Or.inl ⟨by rfl, ?_⟩; intro w' hSw; (try dsimp only at hSw); go_simp)); exact hH) | (refine wpAnyZ_takeC (i := 4) (v := ?_) rfl ?_ ?_ ?_ ?_ (fun _ _ _ h => h) ?_ ?_ ?_; rotate_left; kernel_rfl; kernel_rfl; kernel_rfl; kernel_rfl; (focus (refine Or.inl ⟨by rfl, ?_⟩; intro w' hSw; (try dsimp only at hSw); go_simp; with_reducible rfl)); exact hH)
      try simp only [Act.put, List.getElem_toArray, List.getElem_cons_succ, List.getElem_cons_zero, List.setIfInBounds_toArray, List.set_cons_zero, List.set_cons_succ]
      refine wpAnyZ_ready (rs := [5]) (by kernel_rfl) (by simp) ?_
      refine (AllReadyZ.cons rfl (fun K hK => ?_) AllReadyZ.nil)
      go_simp
      with_reducible refine (GR.out _).mono ?_
      rintro e w1 ⟨rfl, hb1'⟩
      have hb1 : Below (wi.heap.size) wi w1 := below_next hH.2 hb1'
      try go_wp2_with fail
      have hH1 := KP.out _ hb1
      refine hK.out _ _ (fun _ => hH1) ?_
      clear hK K hH
      have hH := hH1
      clear hH1
      try simp only [Act.put, List.getElem_toArray, List.getElem_cons_succ, List.getElem_cons_zero, List.setIfInBounds_toArray, List.set_cons_zero, List.set_cons_succ]
      refine wpAnyZ_ready (rs := [6]) (by kernel_rfl) (by simp) ?_
      refine (AllReadyZ.cons rfl (fun K hK => ?_) AllReadyZ.nil)
      go_simp
      with_reducible refine (GA.out _ hb1).mono ?_
      rintro e wj ⟨rfl, hf2, hs2⟩
      have HG := Lib.hid (And.intro hf2 (And.intro hs2 hb1))
      clear hf2 hs2
      refine hK.out _ _ (fun h => absurd (by simp) h) ?_
      clear hK K
      try simp only [Act.put, List.getElem_toArray, List.getElem_cons_succ, List.getElem_cons_zero, List.setIfInBounds_toArray, List.set_cons_zero, List.set_cons_succ]
      refine wpAnyZ_done (by kernel_rfl) ?_ _
      refine NoPanic.normal ?_
      skip
      try clear hH
      have hsj : Spares wi wj := (Spares.of_below HG.out.2.2).trans HG.out.2.1
      have bgj := hsj g' _ cs (by decide) (by decide) (by decide) (by decide) HY.out.2.2.1
      have btj := hsj TB _ _ (by decide) (by decide) (by decide) (by decide) HI.out.2.1
      have HJ := Lib.hid (And.intro bgj btj)
      have HSJ := Lib.hid (HI.out.2.2.2.trans hsj)
      clear hsj bgj btj KP
      go_upto_region 16 with (fail)
      have KQ : Hid (∀ w', Below (wj.heap.size) wj w' → (w'.cell? ⟨g', 0, none⟩ = some (.int .i64 y0.id) ∧ w'.cell? ⟨TB, 0, none⟩ = some (.int .u8 k) ∧ w'.cell? ⟨TB, 1, none⟩ = some (.int .i64 id) ∧ w'.cell? ⟨TB, 2, none⟩ = some (.int .u16 s) ∧ w'.cell? ⟨TB, 3, none⟩ = some (.int .u16 b)) ∧ Below (wj.heap.size) wj w') := fun w' hb => ⟨⟨(HJ.out.1.next hb).get 0 HY.out.2.2.2, (HJ.out.2.next hb).get 0 rfl, (HJ.out.2.next hb).get 1 rfl, (HJ.out.2.next hb).get 2 rfl, (HJ.out.2.next hb).get 3 rfl⟩, hb⟩
      refine wp_region_noPanic ?_
      refine wp_region_held_drew (S := fun w' => (w'.cell? ⟨g', 0, none⟩ = some (.int .i64 y0.id) ∧ w'.cell? ⟨TB, 0, none⟩ = some (.int .u8 k) ∧ w'.cell? ⟨TB, 1, none⟩ = some (.int .i64 id) ∧ w'.cell? ⟨TB, 2, none⟩ = some (.int .u16 s) ∧ w'.cell? ⟨TB, 3, none⟩ = some (.int .u16 b)) ∧ Below (wj.heap.size) wj w') (by kernel_rfl) (KQ.out _ (below_of_drew ((Below.refl wj.heap.size wj)))) (fun hH => ?_)
      have hbR := below_of_drew ((Below.refl wj.heap.size wj))
      first | (refine wpAnyH_take (i := 0) (v := undef) rfl ?_ ?_ ?_ (fun _ _ _ h => h) ?_ ?_ ?_; kernel_rfl; kernel_rfl; kernel_rfl; exact Or.inr ⟨by rfl, rfl⟩; exact hH) | (refine wpAnyH_take (i := 0) (v := ?_) rfl ?_ ?_ ?_ (fun _ _ _ h => h) ?_ ?_ ?_; rotate_left; kernel_rfl; kernel_rfl; kernel_rfl; (focus (refine Or.inl ⟨by rfl, ?_⟩; intro w' hSw; (try dsimp only at hSw); go_simp)); exact hH) | (refine wpAnyH_take (i := 0) (v := ?_) rfl ?_ ?_ ?_ (fun _ _ _ h => h) ?_ ?_ ?_; rotate_left; kernel_rfl; kernel_rfl; kernel_rfl; (focus (refine Or.inl ⟨by rfl, ?_⟩; intro w' hSw; (try dsimp only at hSw); go_simp; with_reducible rfl)); exact hH)
      try simp only [Act.put, List.getElem_toArray, List.getElem_cons_succ, List.getElem_cons_zero, List.setIfInBounds_toArray, List.set_cons_zero, List.set_cons_succ]
      first | (refine wpAnyH_take (i := 1) (v := undef) rfl ?_ ?_ ?_ (fun _ _ _ h => h) ?_ ?_ ?_; kernel_rfl; kernel_rfl; kernel_rfl; exact Or.inr ⟨by rfl, rfl⟩; exact hH) | (refine wpAnyH_take (i := 1) (v := ?_) rfl ?_ ?_ ?_ (fun _ _ _ h => h) ?_ ?_ ?_; rotate_left; kernel_rfl; kernel_rfl; kernel_rfl; (focus (refine Or.inl ⟨by rfl, ?_⟩; intro w' hSw; (try dsimp only at hSw); go_simp)); exact hH) | (refine wpAnyH_take (i := 1) (v := ?_) rfl ?_ ?_ ?_ (fun _ _ _ h => h) ?_ ?_ ?_; rotate_left; kernel_rfl; kernel_rfl; kernel_rfl; (focus (refine Or.inl ⟨by rfl, ?_⟩; intro w' hSw; (try dsimp only at hSw); go_simp; with_reducible rfl)); exact hH)
      try simp only [Act.put, List.getElem_toArray, List.getElem_cons_succ, List.getElem_cons_zero, List.setIfInBounds_toArray, List.set_cons_zero, List.set_cons_succ]
      first | (refine wpAnyH_take (i := 2) (v := undef) rfl ?_ ?_ ?_ (fun _ _ _ h => h) ?_ ?_ ?_; kernel_rfl; kernel_rfl; kernel_rfl; exact Or.inr ⟨by rfl, rfl⟩; exact hH) | (refine wpAnyH_take (i := 2) (v := ?_) rfl ?_ ?_ ?_ (fun _ _ _ h => h) ?_ ?_ ?_; rotate_left; kernel_rfl; kernel_rfl; kernel_rfl; (focus (refine Or.inl ⟨by rfl, ?_⟩; intro w' hSw; (try dsimp only at hSw); go_simp)); exact hH) | (refine wpAnyH_take (i := 2) (v := ?_) rfl ?_ ?_ ?_ (fun _ _ _ h => h) ?_ ?_ ?_; rotate_left; kernel_rfl; kernel_rfl; kernel_rfl; (focus (refine Or.inl ⟨by rfl, ?_⟩; intro w' hSw; (try dsimp only at hSw); go_simp; with_reducible rfl)); exact hH)
      try simp only [Act.put, List.getElem_toArray, List.getElem_cons_succ, List.getElem_cons_zero, List.setIfInBounds_toArray, List.set_cons_zero, List.set_cons_succ]
      first | (refine wpAnyH_take (i := 3) (v := undef) rfl ?_ ?_ ?_ (fun _ _ _ h => h) ?_ ?_ ?_; kernel_rfl; kernel_rfl; kernel_rfl; exact Or.inr ⟨by rfl, rfl⟩; exact hH) | (refine wpAnyH_take (i := 3) (v := ?_) rfl ?_ ?_ ?_ (fun _ _ _ h => h) ?_ ?_ ?_; rotate_left; kernel_rfl; kernel_rfl; kernel_rfl; (focus (refine Or.inl ⟨by rfl, ?_⟩; intro w' hSw; (try dsimp only at hSw); go_simp)); exact hH) | (refine wpAnyH_take (i := 3) (v := ?_) rfl ?_ ?_ ?_ (fun _ _ _ h => h) ?_ ?_ ?_; rotate_left; kernel_rfl; kernel_rfl; kernel_rfl; (focus (refine Or.inl ⟨by rfl, ?_⟩; intro w' hSw; (try dsimp only at hSw); go_simp; with_reducible rfl)); exact hH)
      try simp only [Act.put, List.getElem_toArray, List.getElem_cons_succ, List.getElem_cons_zero, List.setIfInBounds_toArray, List.set_cons_zero, List.set_cons_succ]
      refine wpAnyH_ready (rs := [4]) (by kernel_rfl) (by simp) ?_
      refine (AllReadyH.cons rfl (fun K hK => ?_) AllReadyH.nil)
      go_simp
      with_reducible refine (GR.out _).mono ?_
      rintro e w1 ⟨rfl, hb1'⟩
      have hb1 : Below (wj.heap.size) wj w1 := below_next hH.2 hb1'
      try go_wp2_with fail
      refine hK.out _ _ (KQ.out _ hb1) (fun hH1 => ?_)
      clear hK K hH
      have hH := hH1
      clear hH1
      try simp only [Act.put, List.getElem_toArray, List.getElem_cons_succ, List.getElem_cons_zero, List.setIfInBounds_toArray, List.set_cons_zero, List.set_cons_succ]
      first | (refine wpAnyH_take (i := 5) (v := undef) rfl ?_ ?_ ?_ (fun _ _ _ h => h) ?_ ?_ ?_; kernel_rfl; kernel_rfl; kernel_rfl; exact Or.inr ⟨by rfl, rfl⟩; exact hH) | (refine wpAnyH_take (i := 5) (v := ?_) rfl ?_ ?_ ?_ (fun _ _ _ h => h) ?_ ?_ ?_; rotate_left; kernel_rfl; kernel_rfl; kernel_rfl; (focus (refine Or.inl ⟨by rfl, ?_⟩; intro w' hSw; (try dsimp only at hSw); go_simp)); exact hH) | (refine wpAnyH_take (i := 5) (v := ?_) rfl ?_ ?_ ?_ (fun _ _ _ h => h) ?_ ?_ ?_; rotate_left; kernel_rfl; kernel_rfl; kernel_rfl; (focus (refine Or.inl ⟨by rfl, ?_⟩; intro w' hSw; (try dsimp only at hSw); go_simp; with_reducible rfl)); exact hH)
      try simp only [Act.put, List.getElem_toArray, List.getElem_cons_succ, List.getElem_cons_zero, List.setIfInBounds_toArray, List.set_cons_zero, List.set_cons_succ]
      first | (refine wpAnyH_take (i := 6) (v := undef) rfl ?_ ?_ ?_ (fun _ _ _ h => h) ?_ ?_ ?_; kernel_rfl; kernel_rfl; kernel_rfl; exact Or.inr ⟨by rfl, rfl⟩; exact hH) | (refine wpAnyH_take (i := 6) (v := ?_) rfl ?_ ?_ ?_ (fun _ _ _ h => h) ?_ ?_ ?_; rotate_left; kernel_rfl; kernel_rfl; kernel_rfl; (focus (refine Or.inl ⟨by rfl, ?_⟩; intro w' hSw; (try dsimp only at hSw); go_simp)); exact hH) | (refine wpAnyH_take (i := 6) (v := ?_) rfl ?_ ?_ ?_ (fun _ _ _ h => h) ?_ ?_ ?_; rotate_left; kernel_rfl; kernel_rfl; kernel_rfl; (focus (refine Or.inl ⟨by rfl, ?_⟩; intro w' hSw; (try dsimp only at hSw); go_simp; with_reducible rfl)); exact hH)
      try simp only [Act.put, List.getElem_toArray, List.getElem_cons_succ, List.getElem_cons_zero, List.setIfInBounds_toArray, List.set_cons_zero, List.set_cons_succ]
      refine wpAnyH_done (by kernel_rfl) ?_ _
      refine NoPanic.normal ?_
      clear hH
      have hbG := hb1
      try clear hH
      go_wp2_with fail
      go_returns
      have hfi := HG.out.1.next hbG
      have hok := H1.out.2.1.gain y0.id HGW.out
      have hin := (mem_ups.1 HY.out.2.1).1
      exact ⟨y0.id, gg, S1.gain y0.id gg, rfl, HGB.out.1, HGB.out.2, hfi, hok, H1.out.2.2.1.gain H1.out.2.1 HY.out.2.1 (fnd_of_mem H1.out.1.fam.ids hin) HY.out.1 HGB.out.1 HGB.out.2 HII.out, HSJ.out.trans (Spares.of_below hbG)⟩

  have n0 : (r == 0) = false := beq_eq_false_iff_ne.2 h0
  have n0' : decide (r = 0) = false := decide_eq_false h0
  clear h0
  by_cases h1 : r = 1
  · subst h1
    have AWK := Lib.hid (fi_awake id8 H0.out.1)
    have DR := Lib.hid (fi_drop id8 H0.out.1)
    obtain ⟨bu, hbu⟩ : ∃ z, upOf id8 S.L = z := ⟨_, rfl⟩
    rw [hbu] at AWK
    clear hbu
    go_wp2_with fail
    with_reducible refine (AWK.out).mono ?_
    rintro e wx ⟨rfl, rfl⟩
    cases bu with
    | true =>
      have H1 : Hid (FamIn B w0 wt f mb S ∧ S.ok (N + 1) ∧ Strt l M i S ∧ Spares w wt ∧ Blk wt TB 56 #[.int .u8 k, .int .i64 id, .int .u16 s, .int .u16 b]) := ⟨H0.out.1, H0.out.2.1.more (Nat.le_succ _), H0.out.2.2⟩
      obtain ⟨S1, hS1⟩ : ∃ z, S = z := ⟨_, rfl⟩
      rw [hS1] at H1
      clear hS1 DR
      go_wp2_with fail
      with_reducible refine (fi_ids H1.out.1 H1.out.2.1 (by have := HN.out; omega)).mono ?_
      rintro e wi ⟨v, D, rfl, hL, hown, hbi⟩
      obtain ⟨A', c', rfl, -, hrow⟩ := row_form hown
      have HI := Lib.hid (And.intro (H1.out.1.next hbi) (And.intro (H1.out.2.2.2.2.next hbi) (And.intro hL (H1.out.2.2.2.1.trans (Spares.of_below hbi)))))
      have HROW := Lib.hid hrow
      obtain ⟨n, hn⟩ : ∃ n, D.length = n := ⟨_, rfl⟩
      have HLN := Lib.hid hn
      clear hL hown hbi hrow
      rw [hn]
      clear hn
      rcases Nat.eq_zero_or_pos n with hz | hz
      · subst hz
        go_wp2_with fail
        go_returns
        exact ⟨-1, 0, S1, rfl, Int.le_refl _, by decide, HI.out.1, H1.out.2.1, H1.out.2.2.1.more (by omega) (by have := H1.out.2.2.1.m1; omega) (Nat.le_succ _) HII.out, HI.out.2.2.2⟩
      · have hn := HLN.out
        obtain ⟨g', cs, rfl, -, hbg, hcs⟩ := HROW.out (by omega)
        have hv := H1.out.2.1.vok
        have f0 := (ids_first HI.out.2.2.1 hv (j := 0) (by omega)).1 rfl
        have i0 := HI.out.2.2.1.1.subset (List.getElem_mem (show 0 < D.length by omega))
        have q0 : cs[0]? = some (.int .i64 (D[0]'(by omega)).id) := hcs 0 _ (by rw [List.getElem?_map, List.getElem?_eq_getElem (by omega)]; rfl)
        generalize (D[0]'(by omega)) = y0 at f0 i0 q0
        have HY := Lib.hid (And.intro f0 (And.intro i0 (And.intro hbg q0)))
        have g1 : decide ((0 : Int) < (n : Int)) = true := decide_eq_true (by omega)
        have g2 : ((n : Int) == 0) = false := beq_eq_false_iff_ne.2 (by omega)
        have g3 : decide (n = 0) = false := decide_eq_false (by omega)
        have g4 : (n == 0) = false := beq_eq_false_iff_ne.2 (by omega)
        have g5 : (0 : Int) < (n : Int) := by omega
        have GA := Lib.hid (fun w' (hb : Below wi.heap.size wi w') => fi_gain y0.id gg (HI.out.1.next hb) H1.out.2.1 (by have := HN.out; omega) HGW.out)
        clear hn hbg hcs hv f0 i0 q0
        go_upto_region 15 with (fail)
        have KP : Hid (∀ w', Below (wi.heap.size) wi w' → (w'.cell? ⟨g', 0, none⟩ = some (.int .i64 y0.id) ∧ w'.cell? ⟨TB, 0, none⟩ = some (.int .u8 k) ∧ w'.cell? ⟨TB, 1, none⟩ = some (.int .i64 id) ∧ w'.cell? ⟨TB, 2, none⟩ = some (.int .u16 s) ∧ w'.cell? ⟨TB, 3, none⟩ = some (.int .u16 b)) ∧ Below (wi.heap.size) wi w') := fun w' hb => ⟨⟨(HY.out.2.2.1.next hb).get 0 HY.out.2.2.2, (HI.out.2.1.next hb).get 0 rfl, (HI.out.2.1.next hb).get 1 rfl, (HI.out.2.1.next hb).get 2 rfl, (HI.out.2.1.next hb).get 3 rfl⟩, hb⟩
        refine wp_region_noPanic ?_
        refine wp_region_Z [6] (fun w' => (w'.cell? ⟨g', 0, none⟩ = some (.int .i64 y0.id) ∧ w'.cell? ⟨TB, 0, none⟩ = some (.int .u8 k) ∧ w'.cell? ⟨TB, 1, none⟩ = some (.int .i64 id) ∧ w'.cell? ⟨TB, 2, none⟩ = some (.int .u16 s) ∧ w'.cell? ⟨TB, 3, none⟩ = some (.int .u16 b)) ∧ Below (wi.heap.size) wi w') (by kernel_rfl) (KP.out _ (below_of_drew ((Below.refl wi.heap.size wi)))) (fun hH => ?_)
        have hbR := below_of_drew ((Below.refl wi.heap.size wi))
        first | (refine wpAnyZ_takeC (i := 0) (v := undef) rfl ?_ ?_ ?_ ?_ (fun _ _ _ h => h) ?_ ?_ ?_; kernel_rfl; kernel_rfl; kernel_rfl; kernel_rfl; exact Or.inr ⟨by rfl, rfl⟩; exact hH) | (refine wpAnyZ_takeC (i := 0) (v := ?_) rfl ?_ ?_ ?_ ?_ (fun _ _ _ h => h) ?_ ?_ ?_; rotate_left; kernel_rfl; kernel_rfl; kernel_rfl; kernel_rfl; (focus (refine Or.inl ⟨by rfl, ?_⟩; intro w' hSw; (try dsimp only at hSw); go_simp)); exact hH) | (refine wpAnyZ_takeC (i := 0) (v := ?_) rfl ?_ ?_ ?_ ?_ (fun _ _ _ h => h) ?_ ?_ ?_; rotate_left; kernel_rfl; kernel_rfl; kernel_rfl; kernel_rfl; (focus (refine Or.inl ⟨by rfl, ?_⟩; intro w' hSw; (try dsimp only at hSw); go_simp; with_reducible rfl)); exact hH)
        try simp only [Act.put, List.getElem_toArray, List.getElem_cons_succ, List.getElem_cons_zero, List.setIfInBounds_toArray, List.set_cons_zero, List.set_cons_succ]
        first | (refine wpAnyZ_takeC (i := 1) (v := undef) rfl ?_ ?_ ?_ ?_ (fun _ _ _ h => h) ?_ ?_ ?_; kernel_rfl; kernel_rfl; kernel_rfl; kernel_rfl; exact Or.inr ⟨by rfl, rfl⟩; exact hH) | (refine wpAnyZ_takeC (i := 1) (v := ?_) rfl ?_ ?_ ?_ ?_ (fun _ _ _ h => h) ?_ ?_ ?_; rotate_left; kernel_rfl; kernel_rfl; kernel_rfl; kernel_rfl; (focus (refine Or.inl ⟨by rfl, ?_⟩; intro w' hSw; (try dsimp only at hSw); go_simp)); exact hH) | (refine wpAnyZ_takeC (i := 1) (v := ?_) rfl ?_ ?_ ?_ ?_ (fun _ _ _ h => h) ?_ ?_ ?_; rotate_left; kernel_rfl; kernel_rfl; kernel_rfl; kernel_rfl; (focus (refine Or.inl ⟨by rfl, ?_⟩; intro w' hSw; (try dsimp only at hSw); go_simp; with_reducible rfl)); exact hH)
        try simp only [Act.put, List.getElem_toArray, List.getElem_cons_succ, List.getElem_cons_zero, List.setIfInBounds_toArray, List.set_cons_zero, List.set_cons_succ]
        first | (refine wpAnyZ_takeC (i := 2) (v := undef) rfl ?_ ?_ ?_ ?_ (fun _ _ _ h => h) ?_ ?_ ?_; kernel_rfl; kernel_rfl; kernel_rfl; kernel_rfl; exact Or.inr ⟨by rfl, rfl⟩; exact hH) | (refine wpAnyZ_takeC (i := 2) (v := ?_) rfl ?_ ?_ ?_ ?_ (fun _ _ _ h => h) ?_ ?_ ?_; rotate_left; kernel_rfl; kernel_rfl; kernel_rfl; kernel_rfl; (focus (refine Or.inl ⟨by rfl, ?_⟩; intro w' hSw; (try dsimp only at hSw); go_simp)); exact hH) | (refine wpAnyZ_takeC (i := 2) (v := ?_) rfl ?_ ?_ ?_ ?_ (fun _ _ _ h => h) ?_ ?_ ?_; rotate_left; kernel_rfl; kernel_rfl; kernel_rfl; kernel_rfl; (focus (refine Or.inl ⟨by rfl, ?_⟩; intro w' hSw; (try dsimp only at hSw); go_simp; with_reducible rfl)); exact hH)
        try simp only [Act.put, List.getElem_toArray, List.getElem_cons_succ, List.getElem_cons_zero, List.setIfInBounds_toArray, List.set_cons_zero, List.set_cons_succ]
        first | (refine wpAnyZ_takeC (i := 3) (v := undef) rfl ?_ ?_ ?_ ?_ (fun _ _ _ h => h) ?_ ?_ ?_; kernel_rfl; kernel_rfl; kernel_rfl; kernel_rfl; exact Or.inr ⟨by rfl, rfl⟩; exact hH) | (refine wpAnyZ_takeC (i := 3) (v := ?_) rfl ?_ ?_ ?_ ?_ (fun _ _ _ h => h) ?_ ?_ ?_; rotate_left; kernel_rfl; kernel_rfl; kernel_rfl; kernel_rfl; (focus (refine Or.inl ⟨by rfl, ?_⟩; intro w' hSw; (try dsimp only at hSw); go_simp)); exact hH) | (refine wpAnyZ_takeC (i := 3) (v := ?_) rfl ?_ ?_ ?_ ?_ (fun _ _ _ h => h) ?_ ?_ ?_; rotate_left; kernel_rfl; kernel_rfl; kernel_rfl; kernel_rfl; (focus (refine Or.inl ⟨by rfl, ?_⟩; intro w' hSw; (try dsimp only at hSw); go_simp; with_reducible rfl)); exact hH)
        try simp only [Act.put, List.getElem_toArray, List.getElem_cons_succ, List.getElem_cons_zero, List.setIfInBounds_toArray, List.set_cons_zero, List.set_cons_succ]
        first | (refine wpAnyZ_takeC (i := 4) (v := undef) rfl ?_ ?_ ?_ ?_ (fun _ _ _ h => h) ?_ ?_ ?_; kernel_rfl; kernel_rfl; kernel_rfl; kernel_rfl; exact Or.inr ⟨by rfl, rfl⟩; exact hH) | (refine wpAnyZ_takeC (i := 4) (v := ?_) rfl ?_ ?_ ?_ ?_ (fun _ _ _ h => h) ?_ ?_ ?_; rotate_left; kernel_rfl; kernel_rfl; kernel_rfl; kernel_rfl; (focus (refine Or.inl ⟨by rfl, ?_⟩; intro w' hSw; (try dsimp only at hSw); go_simp)); exact hH) | (refine wpAnyZ_takeC (i := 4) (v := ?_) rfl ?_ ?_ ?_ ?_ (fun _ _ _ h => h) ?_ ?_ ?_; rotate_left; kernel_rfl; kernel_rfl; kernel_rfl; kernel_rfl; (focus (refine Or.inl ⟨by rfl, ?_⟩; intro w' hSw; (try dsimp only at hSw); go_simp; with_reducible rfl)); exact hH)
        try simp only [Act.put, List.getElem_toArray, List.getElem_cons_succ, List.getElem_cons_zero, List.setIfInBounds_toArray, List.set_cons_zero, List.set_cons_succ]
        refine wpAnyZ_ready (rs := [5]) (by kernel_rfl) (by simp) ?_
        refine (AllReadyZ.cons rfl (fun K hK => ?_) AllReadyZ.nil)
        go_simp
        with_reducible refine (GR.out _).mono ?_
        rintro e w1 ⟨rfl, hb1'⟩
        have hb1 : Below (wi.heap.size) wi w1 := below_next hH.2 hb1'
        try go_wp2_with fail
        have hH1 := KP.out _ hb1
        refine hK.out _ _ (fun _ => hH1) ?_
        clear hK K hH
        have hH := hH1
        clear hH1
        try simp only [Act.put, List.getElem_toArray, List.getElem_cons_succ, List.getElem_cons_zero, List.setIfInBounds_toArray, List.set_cons_zero, List.set_cons_succ]
        refine wpAnyZ_ready (rs := [6]) (by kernel_rfl) (by simp) ?_
        refine (AllReadyZ.cons rfl (fun K hK => ?_) AllReadyZ.nil)
        go_simp
        with_reducible refine (GA.out _ hb1).mono ?_
        rintro e wj ⟨rfl, hf2, hs2⟩
        have HG := Lib.hid (And.intro hf2 (And.intro hs2 hb1))
        clear hf2 hs2
        refine hK.out _ _ (fun h => absurd (by simp) h) ?_
        clear hK K
        try simp only [Act.put, List.getElem_toArray, List.getElem_cons_succ, List.getElem_cons_zero, List.setIfInBounds_toArray, List.set_cons_zero, List.set_cons_succ]
        refine wpAnyZ_done (by kernel_rfl) ?_ _
        refine NoPanic.normal ?_
        skip
        try clear hH
        have hsj : Spares wi wj := (Spares.of_below HG.out.2.2).trans HG.out.2.1
        have bgj := hsj g' _ cs (by decide) (by decide) (by decide) (by decide) HY.out.2.2.1
        have btj := hsj TB _ _ (by decide) (by decide) (by decide) (by decide) HI.out.2.1
        have HJ := Lib.hid (And.intro bgj btj)
        have HSJ := Lib.hid (HI.out.2.2.2.trans hsj)
        clear hsj bgj btj KP
        go_upto_region 16 with (fail)
        have KQ : Hid (∀ w', Below (wj.heap.size) wj w' → (w'.cell? ⟨g', 0, none⟩ = some (.int .i64 y0.id) ∧ w'.cell? ⟨TB, 0, none⟩ = some (.int .u8 k) ∧ w'.cell? ⟨TB, 1, none⟩ = some (.int .i64 id) ∧ w'.cell? ⟨TB, 2, none⟩ = some (.int .u16 s) ∧ w'.cell? ⟨TB, 3, none⟩ = some (.int .u16 b)) ∧ Below (wj.heap.size) wj w') := fun w' hb => ⟨⟨(HJ.out.1.next hb).get 0 HY.out.2.2.2, (HJ.out.2.next hb).get 0 rfl, (HJ.out.2.next hb).get 1 rfl, (HJ.out.2.next hb).get 2 rfl, (HJ.out.2.next hb).get 3 rfl⟩, hb⟩
        refine wp_region_noPanic ?_
        refine wp_region_held_drew (S := fun w' => (w'.cell? ⟨g', 0, none⟩ = some (.int .i64 y0.id) ∧ w'.cell? ⟨TB, 0, none⟩ = some (.int .u8 k) ∧ w'.cell? ⟨TB, 1, none⟩ = some (.int .i64 id) ∧ w'.cell? ⟨TB, 2, none⟩ = some (.int .u16 s) ∧ w'.cell? ⟨TB, 3, none⟩ = some (.int .u16 b)) ∧ Below (wj.heap.size) wj w') (by kernel_rfl) (KQ.out _ (below_of_drew ((Below.refl wj.heap.size wj)))) (fun hH => ?_)
        have hbR := below_of_drew ((Below.refl wj.heap.size wj))
        first | (refine wpAnyH_take (i := 0) (v := undef) rfl ?_ ?_ ?_ (fun _ _ _ h => h) ?_ ?_ ?_; kernel_rfl; kernel_rfl; kernel_rfl; exact Or.inr ⟨by rfl, rfl⟩; exact hH) | (refine wpAnyH_take (i := 0) (v := ?_) rfl ?_ ?_ ?_ (fun _ _ _ h => h) ?_ ?_ ?_; rotate_left; kernel_rfl; kernel_rfl; kernel_rfl; (focus (refine Or.inl ⟨by rfl, ?_⟩; intro w' hSw; (try dsimp only at hSw); go_simp)); exact hH) | (refine wpAnyH_take (i := 0) (v := ?_) rfl ?_ ?_ ?_ (fun _ _ _ h => h) ?_ ?_ ?_; rotate_left; kernel_rfl; kernel_rfl; kernel_rfl; (focus (refine Or.inl ⟨by rfl, ?_⟩; intro w' hSw; (try dsimp only at hSw); go_simp; with_reducible rfl)); exact hH)
        try simp only [Act.put, List.getElem_toArray, List.getElem_cons_succ, List.getElem_cons_zero, List.setIfInBounds_toArray, List.set_cons_zero, List.set_cons_succ]
        first | (refine wpAnyH_take (i := 1) (v := undef) rfl ?_ ?_ ?_ (fun _ _ _ h => h) ?_ ?_ ?_; kernel_rfl; kernel_rfl; kernel_rfl; exact Or.inr ⟨by rfl, rfl⟩; exact hH) | (refine wpAnyH_take (i := 1) (v := ?_) rfl ?_ ?_ ?_ (fun _ _ _ h => h) ?_ ?_ ?_; rotate_left; kernel_rfl; kernel_rfl; kernel_rfl; (focus (refine Or.inl ⟨by rfl, ?_⟩; intro w' hSw; (try dsimp only at hSw); go_simp)); exact hH) | (refine wpAnyH_take (i := 1) (v := ?_) rfl ?_ ?_ ?_ (fun _ _ _ h => h) ?_ ?_ ?_; rotate_left; kernel_rfl; kernel_rfl; kernel_rfl; (focus (refine Or.inl ⟨by rfl, ?_⟩; intro w' hSw; (try dsimp only at hSw); go_simp; with_reducible rfl)); exact hH)
        try simp only [Act.put, List.getElem_toArray, List.getElem_cons_succ, List.getElem_cons_zero, List.setIfInBounds_toArray, List.set_cons_zero, List.set_cons_succ]
        first | (refine wpAnyH_take (i := 2) (v := undef) rfl ?_ ?_ ?_ (fun _ _ _ h => h) ?_ ?_ ?_; kernel_rfl; kernel_rfl; kernel_rfl; exact Or.inr ⟨by rfl, rfl⟩; exact hH) | (refine wpAnyH_take (i := 2) (v := ?_) rfl ?_ ?_ ?_ (fun _ _ _ h => h) ?_ ?_ ?_; rotate_left; kernel_rfl; kernel_rfl; kernel_rfl; (focus (refine Or.inl ⟨by rfl, ?_⟩; intro w' hSw; (try dsimp only at hSw); go_simp)); exact hH) | (refine wpAnyH_take (i := 2) (v := ?_) rfl ?_ ?_ ?_ (fun _ _ _ h => h) ?_ ?_ ?_; rotate_left; kernel_rfl; kernel_rfl; kernel_rfl; (focus (refine Or.inl ⟨by rfl, ?_⟩; intro w' hSw; (try dsimp only at hSw); go_simp; with_reducible rfl)); exact hH)
        try simp only [Act.put, List.getElem_toArray, List.getElem_cons_succ, List.getElem_cons_zero, List.setIfInBounds_toArray, List.set_cons_zero, List.set_cons_succ]
        first | (refine wpAnyH_take (i := 3) (v := undef) rfl ?_ ?_ ?_ (fun _ _ _ h => h) ?_ ?_ ?_; kernel_rfl; kernel_rfl; kernel_rfl; exact Or.inr ⟨by rfl, rfl⟩; exact hH) | (refine wpAnyH_take (i := 3) (v := ?_) rfl ?_ ?_ ?_ (fun _ _ _ h => h) ?_ ?_ ?_; rotate_left; kernel_rfl; kernel_rfl; kernel_rfl; (focus (refine Or.inl ⟨by rfl, ?_⟩; intro w' hSw; (try dsimp only at hSw); go_simp)); exact hH) | (refine wpAnyH_take (i := 3) (v := ?_) rfl ?_ ?_ ?_ (fun _ _ _ h => h) ?_ ?_ ?_; rotate_left; kernel_rfl; kernel_rfl; kernel_rfl; (focus (refine Or.inl ⟨by rfl, ?_⟩; intro w' hSw; (try dsimp only at hSw); go_simp; with_reducible rfl)); exact hH)
        try simp only [Act.put, List.getElem_toArray, List.getElem_cons_succ, List.getElem_cons_zero, List.setIfInBounds_toArray, List.set_cons_zero, List.set_cons_succ]
        refine wpAnyH_ready (rs := [4]) (by kernel_rfl) (by simp) ?_
        refine (AllReadyH.cons rfl (fun K hK => ?_) AllReadyH.nil)
        go_simp
        with_reducible refine (GR.out _).mono ?_
        rintro e w1 ⟨rfl, hb1'⟩
        have hb1 : Below (wj.heap.size) wj w1 := below_next hH.2 hb1'
        try go_wp2_with fail
        refine hK.out _ _ (KQ.out _ hb1) (fun hH1 => ?_)
        clear hK K hH
        have hH := hH1
        clear hH1
        try simp only [Act.put, List.getElem_toArray, List.getElem_cons_succ, List.getElem_cons_zero, List.setIfInBounds_toArray, List.set_cons_zero, List.set_cons_succ]
        first | (refine wpAnyH_take (i := 5) (v := undef) rfl ?_ ?_ ?_ (fun _ _ _ h => h) ?_ ?_ ?_; kernel_rfl; kernel_rfl; kernel_rfl; exact Or.inr ⟨by rfl, rfl⟩; exact hH) | (refine wpAnyH_take (i := 5) (v := ?_) rfl ?_ ?_ ?_ (fun _ _ _ h => h) ?_ ?_ ?_; rotate_left; kernel_rfl; kernel_rfl; kernel_rfl; (focus (refine Or.inl ⟨by rfl, ?_⟩; intro w' hSw; (try dsimp only at hSw); go_simp)); exact hH) | (refine wpAnyH_take (i := 5) (v := ?_) rfl ?_ ?_ ?_ (fun _ _ _ h => h) ?_ ?_ ?_; rotate_left; kernel_rfl; kernel_rfl; kernel_rfl; (focus (refine Or.inl ⟨by rfl, ?_⟩; intro w' hSw; (try dsimp only at hSw); go_simp; with_reducible rfl)); exact hH)
        try simp only [Act.put, List.getElem_toArray, List.getElem_cons_succ, List.getElem_cons_zero, List.setIfInBounds_toArray, List.set_cons_zero, List.set_cons_succ]
        first | (refine wpAnyH_take (i := 6) (v := undef) rfl ?_ ?_ ?_ (fun _ _ _ h => h) ?_ ?_ ?_; kernel_rfl; kernel_rfl; kernel_rfl; exact Or.inr ⟨by rfl, rfl⟩; exact hH) | (refine wpAnyH_take (i := 6) (v := ?_) rfl ?_ ?_ ?_ (fun _ _ _ h => h) ?_ ?_ ?_; rotate_left; kernel_rfl; kernel_rfl; kernel_rfl; (focus (refine Or.inl ⟨by rfl, ?_⟩; intro w' hSw; (try dsimp only at hSw); go_simp)); exact hH) | (refine wpAnyH_take (i := 6) (v := ?_) rfl ?_ ?_ ?_ (fun _ _ _ h => h) ?_ ?_ ?_; rotate_left; kernel_rfl; kernel_rfl; kernel_rfl; (focus (refine Or.inl ⟨by rfl, ?_⟩; intro w' hSw; (try dsimp only at hSw); go_simp; with_reducible rfl)); exact hH)
        try simp only [Act.put, List.getElem_toArray, List.getElem_cons_succ, List.getElem_cons_zero, List.setIfInBounds_toArray, List.set_cons_zero, List.set_cons_succ]
        refine wpAnyH_done (by kernel_rfl) ?_ _
        refine NoPanic.normal ?_
        clear hH
        have hbG := hb1
        try clear hH
        go_wp2_with fail
        go_returns
        have hfi := HG.out.1.next hbG
        have hok := H1.out.2.1.gain y0.id HGW.out
        have hin := (mem_ups.1 HY.out.2.1).1
        exact ⟨y0.id, gg, S1.gain y0.id gg, rfl, HGB.out.1, HGB.out.2, hfi, hok, H1.out.2.2.1.gain H1.out.2.1 HY.out.2.1 (fnd_of_mem H1.out.1.fam.ids hin) HY.out.1 HGB.out.1 HGB.out.2 HII.out, HSJ.out.trans (Spares.of_below hbG)⟩

    | false =>
      go_wp2_with fail
      with_reducible refine (DR.out).mono ?_
      rintro e w2 ⟨rfl, hf1, hs1⟩
      have H1 := Lib.hid (And.intro hf1 (And.intro ((H0.out.2.1.drop id8).more (Nat.le_succ _)) (And.intro (H0.out.2.2.1.drop H0.out.2.1 id8) (And.intro (H0.out.2.2.2.1.trans hs1) (hs1 TB _ _ (by decide) (by decide) (by decide) (by decide) H0.out.2.2.2.2)))))
      obtain ⟨S1, hS1⟩ : ∃ z, S.drop id8 = z := ⟨_, rfl⟩
      rw [hS1] at H1
      clear hS1 hf1 hs1 DR z0 z1 z2 z3
      go_wp2_with fail
      with_reducible refine (fi_ids H1.out.1 H1.out.2.1 (by have := HN.out; omega)).mono ?_
      rintro e wi ⟨v, D, rfl, hL, hown, hbi⟩
      obtain ⟨A', c', rfl, -, hrow⟩ := row_form hown
      have HI := Lib.hid (And.intro (H1.out.1.next hbi) (And.intro (H1.out.2.2.2.2.next hbi) (And.intro hL (H1.out.2.2.2.1.trans (Spares.of_below hbi)))))
      have HROW := Lib.hid hrow
      obtain ⟨n, hn⟩ : ∃ n, D.length = n := ⟨_, rfl⟩
      have HLN := Lib.hid hn
      clear hL hown hbi hrow
      rw [hn]
      clear hn
      rcases Nat.eq_zero_or_pos n with hz | hz
      · subst hz
        go_wp2_with fail
        go_returns
        exact ⟨-1, 0, S1, rfl, Int.le_refl _, by decide, HI.out.1, H1.out.2.1, H1.out.2.2.1.more (by omega) (by have := H1.out.2.2.1.m1; omega) (Nat.le_succ _) HII.out, HI.out.2.2.2⟩
      · have hn := HLN.out
        obtain ⟨g', cs, rfl, -, hbg, hcs⟩ := HROW.out (by omega)
        have hv := H1.out.2.1.vok
        have f0 := (ids_first HI.out.2.2.1 hv (j := 0) (by omega)).1 rfl
        have i0 := HI.out.2.2.1.1.subset (List.getElem_mem (show 0 < D.length by omega))
        have q0 : cs[0]? = some (.int .i64 (D[0]'(by omega)).id) := hcs 0 _ (by rw [List.getElem?_map, List.getElem?_eq_getElem (by omega)]; rfl)
        generalize (D[0]'(by omega)) = y0 at f0 i0 q0
        have HY := Lib.hid (And.intro f0 (And.intro i0 (And.intro hbg q0)))
        have g1 : decide ((0 : Int) < (n : Int)) = true := decide_eq_true (by omega)
        have g2 : ((n : Int) == 0) = false := beq_eq_false_iff_ne.2 (by omega)
        have g3 : decide (n = 0) = false := decide_eq_false (by omega)
        have g4 : (n == 0) = false := beq_eq_false_iff_ne.2 (by omega)
        have g5 : (0 : Int) < (n : Int) := by omega
        have GA := Lib.hid (fun w' (hb : Below wi.heap.size wi w') => fi_gain y0.id gg (HI.out.1.next hb) H1.out.2.1 (by have := HN.out; omega) HGW.out)
        clear hn hbg hcs hv f0 i0 q0
        go_upto_region 15 with (fail)
        have KP : Hid (∀ w', Below (wi.heap.size) wi w' → (w'.cell? ⟨g', 0, none⟩ = some (.int .i64 y0.id) ∧ w'.cell? ⟨TB, 0, none⟩ = some (.int .u8 k) ∧ w'.cell? ⟨TB, 1, none⟩ = some (.int .i64 id) ∧ w'.cell? ⟨TB, 2, none⟩ = some (.int .u16 s) ∧ w'.cell? ⟨TB, 3, none⟩ = some (.int .u16 b)) ∧ Below (wi.heap.size) wi w') := fun w' hb => ⟨⟨(HY.out.2.2.1.next hb).get 0 HY.out.2.2.2, (HI.out.2.1.next hb).get 0 rfl, (HI.out.2.1.next hb).get 1 rfl, (HI.out.2.1.next hb).get 2 rfl, (HI.out.2.1.next hb).get 3 rfl⟩, hb⟩
        refine wp_region_noPanic ?_
        refine wp_region_Z [6] (fun w' => (w'.cell? ⟨g', 0, none⟩ = some (.int .i64 y0.id) ∧ w'.cell? ⟨TB, 0, none⟩ = some (.int .u8 k) ∧ w'.cell? ⟨TB, 1, none⟩ = some (.int .i64 id) ∧ w'.cell? ⟨TB, 2, none⟩ = some (.int .u16 s) ∧ w'.cell? ⟨TB, 3, none⟩ = some (.int .u16 b)) ∧ Below (wi.heap.size) wi w') (by kernel_rfl) (KP.out _ (below_of_drew ((Below.refl wi.heap.size wi)))) (fun hH => ?_)
        have hbR := below_of_drew ((Below.refl wi.heap.size wi))
        first | (refine wpAnyZ_takeC (i := 0) (v := undef) rfl ?_ ?_ ?_ ?_ (fun _ _ _ h => h) ?_ ?_ ?_; kernel_rfl; kernel_rfl; kernel_rfl; kernel_rfl; exact Or.inr ⟨by rfl, rfl⟩; exact hH) | (refine wpAnyZ_takeC (i := 0) (v := ?_) rfl ?_ ?_ ?_ ?_ (fun _ _ _ h => h) ?_ ?_ ?_; rotate_left; kernel_rfl; kernel_rfl; kernel_rfl; kernel_rfl; (focus (refine Or.inl ⟨by rfl, ?_⟩; intro w' hSw; (try dsimp only at hSw); go_simp)); exact hH) | (refine wpAnyZ_takeC (i := 0) (v := ?_) rfl ?_ ?_ ?_ ?_ (fun _ _ _ h => h) ?_ ?_ ?_; rotate_left; kernel_rfl; kernel_rfl; kernel_rfl; kernel_rfl; (focus (refine Or.inl ⟨by rfl, ?_⟩; intro w' hSw; (try dsimp only at hSw); go_simp; with_reducible rfl)); exact hH)
        try simp only [Act.put, List.getElem_toArray, List.getElem_cons_succ, List.getElem_cons_zero, List.setIfInBounds_toArray, List.set_cons_zero, List.set_cons_succ]
        first | (refine wpAnyZ_takeC (i := 1) (v := undef) rfl ?_ ?_ ?_ ?_ (fun _ _ _ h => h) ?_ ?_ ?_; kernel_rfl; kernel_rfl; kernel_rfl; kernel_rfl; exact Or.inr ⟨by rfl, rfl⟩; exact hH) | (refine wpAnyZ_takeC (i := 1) (v := ?_) rfl ?_ ?_ ?_ ?_ (fun _ _ _ h => h) ?_ ?_ ?_; rotate_left; kernel_rfl; kernel_rfl; kernel_rfl; kernel_rfl; (focus (refine Or.inl ⟨by rfl, ?_⟩; intro w' hSw; (try dsimp only at hSw); go_simp)); exact hH) | (refine wpAnyZ_takeC (i := 1) (v := ?_) rfl ?_ ?_ ?_ ?_ (fun _ _ _ h => h) ?_ ?_ ?_; rotate_left; kernel_rfl; kernel_rfl; kernel_rfl; kernel_rfl; (focus (refine Or.inl ⟨by rfl, ?_⟩; intro w' hSw; (try dsimp only at hSw); go_simp; with_reducible rfl)); exact hH)
        try simp only [Act.put, List.getElem_toArray, List.getElem_cons_succ, List.getElem_cons_zero, List.setIfInBounds_toArray, List.set_cons_zero, List.set_cons_succ]
        first | (refine wpAnyZ_takeC (i := 2) (v := undef) rfl ?_ ?_ ?_ ?_ (fun _ _ _ h => h) ?_ ?_ ?_; kernel_rfl; kernel_rfl; kernel_rfl; kernel_rfl; exact Or.inr ⟨by rfl, rfl⟩; exact hH) | (refine wpAnyZ_takeC (i := 2) (v := ?_) rfl ?_ ?_ ?_ ?_ (fun _ _ _ h => h) ?_ ?_ ?_; rotate_left; kernel_rfl; kernel_rfl; kernel_rfl; kernel_rfl; (focus (refine Or.inl ⟨by rfl, ?_⟩; intro w' hSw; (try dsimp only at hSw); go_simp)); exact hH) | (refine wpAnyZ_takeC (i := 2) (v := ?_) rfl ?_ ?_ ?_ ?_ (fun _ _ _ h => h) ?_ ?_ ?_; rotate_left; kernel_rfl; kernel_rfl; kernel_rfl; kernel_rfl; (focus (refine Or.inl ⟨by rfl, ?_⟩; intro w' hSw; (try dsimp only at hSw); go_simp; with_reducible rfl)); exact hH)
        try simp only [Act.put, List.getElem_toArray, List.getElem_cons_succ, List.getElem_cons_zero, List.setIfInBounds_toArray, List.set_cons_zero, List.set_cons_succ]
        first | (refine wpAnyZ_takeC (i := 3) (v := undef) rfl ?_ ?_ ?_ ?_ (fun _ _ _ h => h) ?_ ?_ ?_; kernel_rfl; kernel_rfl; kernel_rfl; kernel_rfl; exact Or.inr ⟨by rfl, rfl⟩; exact hH) | (refine wpAnyZ_takeC (i := 3) (v := ?_) rfl ?_ ?_ ?_ ?_ (fun _ _ _ h => h) ?_ ?_ ?_; rotate_left; kernel_rfl; kernel_rfl; kernel_rfl; kernel_rfl; (focus (refine Or.inl ⟨by rfl, ?_⟩; intro w' hSw; (try dsimp only at hSw); go_simp)); exact hH) | (refine wpAnyZ_takeC (i := 3) (v := ?_) rfl ?_ ?_ ?_ ?_ (fun _ _ _ h => h) ?_ ?_ ?_; rotate_left; kernel_rfl; kernel_rfl; kernel_rfl; kernel_rfl; (focus (refine Or.inl ⟨by rfl, ?_⟩; intro w' hSw; (try dsimp only at hSw); go_simp; with_reducible rfl)); exact hH)
        try simp only [Act.put, List.getElem_toArray, List.getElem_cons_succ, List.getElem_cons_zero, List.setIfInBounds_toArray, List.set_cons_zero, List.set_cons_succ]
        first | (refine wpAnyZ_takeC (i := 4) (v := undef) rfl ?_ ?_ ?_ ?_ (fun _ _ _ h => h) ?_ ?_ ?_; kernel_rfl; kernel_rfl; kernel_rfl; kernel_rfl; exact Or.inr ⟨by rfl, rfl⟩; exact hH) | (refine wpAnyZ_takeC (i := 4) (v := ?_) rfl ?_ ?_ ?_ ?_ (fun _ _ _ h => h) ?_ ?_ ?_; rotate_left; kernel_rfl; kernel_rfl; kernel_rfl; kernel_rfl; (focus (refine Or.inl ⟨by rfl, ?_⟩; intro w' hSw; (try dsimp only at hSw); go_simp)); exact hH) | (refine wpAnyZ_takeC (i := 4) (v := ?_) rfl ?_ ?_ ?_ ?_ (fun _ _ _ h => h) ?_ ?_ ?_; rotate_left; kernel_rfl; kernel_rfl; kernel_rfl; kernel_rfl; (focus (refine Or.inl ⟨by rfl, ?_⟩; intro w' hSw; (try dsimp only at hSw); go_simp; with_reducible rfl)); exact hH)
        try simp only [Act.put, List.getElem_toArray, List.getElem_cons_succ, List.getElem_cons_zero, List.setIfInBounds_toArray, List.set_cons_zero, List.set_cons_succ]
        refine wpAnyZ_ready (rs := [5]) (by kernel_rfl) (by simp) ?_
        refine (AllReadyZ.cons rfl (fun K hK => ?_) AllReadyZ.nil)
        go_simp
        with_reducible refine (GR.out _).mono ?_
        rintro e w1 ⟨rfl, hb1'⟩
        have hb1 : Below (wi.heap.size) wi w1 := below_next hH.2 hb1'
        try go_wp2_with fail
        have hH1 := KP.out _ hb1
        refine hK.out _ _ (fun _ => hH1) ?_
        clear hK K hH
        have hH := hH1
        clear hH1
        try simp only [Act.put, List.getElem_toArray, List.getElem_cons_succ, List.getElem_cons_zero, List.setIfInBounds_toArray, List.set_cons_zero, List.set_cons_succ]
        refine wpAnyZ_ready (rs := [6]) (by kernel_rfl) (by simp) ?_
        refine (AllReadyZ.cons rfl (fun K hK => ?_) AllReadyZ.nil)
        go_simp
        with_reducible refine (GA.out _ hb1).mono ?_
        rintro e wj ⟨rfl, hf2, hs2⟩
        have HG := Lib.hid (And.intro hf2 (And.intro hs2 hb1))
        clear hf2 hs2
        refine hK.out _ _ (fun h => absurd (by simp) h) ?_
        clear hK K
        try simp only [Act.put, List.getElem_toArray, List.getElem_cons_succ, List.getElem_cons_zero, List.setIfInBounds_toArray, List.set_cons_zero, List.set_cons_succ]
        refine wpAnyZ_done (by kernel_rfl) ?_ _
        refine NoPanic.normal ?_
        skip
        try clear hH
        have hsj : Spares wi wj := (Spares.of_below HG.out.2.2).trans HG.out.2.1
        have bgj := hsj g' _ cs (by decide) (by decide) (by decide) (by decide) HY.out.2.2.1
        have btj := hsj TB _ _ (by decide) (by decide) (by decide) (by decide) HI.out.2.1
        have HJ := Lib.hid (And.intro bgj btj)
        have HSJ := Lib.hid (HI.out.2.2.2.trans hsj)
        clear hsj bgj btj KP
        go_upto_region 16 with (fail)
        have KQ : Hid (∀ w', Below (wj.heap.size) wj w' → (w'.cell? ⟨g', 0, none⟩ = some (.int .i64 y0.id) ∧ w'.cell? ⟨TB, 0, none⟩ = some (.int .u8 k) ∧ w'.cell? ⟨TB, 1, none⟩ = some (.int .i64 id) ∧ w'.cell? ⟨TB, 2, none⟩ = some (.int .u16 s) ∧ w'.cell? ⟨TB, 3, none⟩ = some (.int .u16 b)) ∧ Below (wj.heap.size) wj w') := fun w' hb => ⟨⟨(HJ.out.1.next hb).get 0 HY.out.2.2.2, (HJ.out.2.next hb).get 0 rfl, (HJ.out.2.next hb).get 1 rfl, (HJ.out.2.next hb).get 2 rfl, (HJ.out.2.next hb).get 3 rfl⟩, hb⟩
        refine wp_region_noPanic ?_
        refine wp_region_held_drew (S := fun w' => (w'.cell? ⟨g', 0, none⟩ = some (.int .i64 y0.id) ∧ w'.cell? ⟨TB, 0, none⟩ = some (.int .u8 k) ∧ w'.cell? ⟨TB, 1, none⟩ = some (.int .i64 id) ∧ w'.cell? ⟨TB, 2, none⟩ = some (.int .u16 s) ∧ w'.cell? ⟨TB, 3, none⟩ = some (.int .u16 b)) ∧ Below (wj.heap.size) wj w') (by kernel_rfl) (KQ.out _ (below_of_drew ((Below.refl wj.heap.size wj)))) (fun hH => ?_)
        have hbR := below_of_drew ((Below.refl wj.heap.size wj))
        first | (refine wpAnyH_take (i := 0) (v := undef) rfl ?_ ?_ ?_ (fun _ _ _ h => h) ?_ ?_ ?_; kernel_rfl; kernel_rfl; kernel_rfl; exact Or.inr ⟨by rfl, rfl⟩; exact hH) | (refine wpAnyH_take (i := 0) (v := ?_) rfl ?_ ?_ ?_ (fun _ _ _ h => h) ?_ ?_ ?_; rotate_left; kernel_rfl; kernel_rfl; kernel_rfl; (focus (refine Or.inl ⟨by rfl, ?_⟩; intro w' hSw; (try dsimp only at hSw); go_simp)); exact hH) | (refine wpAnyH_take (i := 0) (v := ?_) rfl ?_ ?_ ?_ (fun _ _ _ h => h) ?_ ?_ ?_; rotate_left; kernel_rfl; kernel_rfl; kernel_rfl; (focus (refine Or.inl ⟨by rfl, ?_⟩; intro w' hSw; (try dsimp only at hSw); go_simp; with_reducible rfl)); exact hH)
        try simp only [Act.put, List.getElem_toArray, List.getElem_cons_succ, List.getElem_cons_zero, List.setIfInBounds_toArray, List.set_cons_zero, List.set_cons_succ]
        first | (refine wpAnyH_take (i := 1) (v := undef) rfl ?_ ?_ ?_ (fun _ _ _ h => h) ?_ ?_ ?_; kernel_rfl; kernel_rfl; kernel_rfl; exact Or.inr ⟨by rfl, rfl⟩; exact hH) | (refine wpAnyH_take (i := 1) (v := ?_) rfl ?_ ?_ ?_ (fun _ _ _ h => h) ?_ ?_ ?_; rotate_left; kernel_rfl; kernel_rfl; kernel_rfl; (focus (refine Or.inl ⟨by rfl, ?_⟩; intro w' hSw; (try dsimp only at hSw); go_simp)); exact hH) | (refine wpAnyH_take (i := 1) (v := ?_) rfl ?_ ?_ ?_ (fun _ _ _ h => h) ?_ ?_ ?_; rotate_left; kernel_rfl; kernel_rfl; kernel_rfl; (focus (refine Or.inl ⟨by rfl, ?_⟩; intro w' hSw; (try dsimp only at hSw); go_simp; with_reducible rfl)); exact hH)
        try simp only [Act.put, List.getElem_toArray, List.getElem_cons_succ, List.getElem_cons_zero, List.setIfInBounds_toArray, List.set_cons_zero, List.set_cons_succ]
        first | (refine wpAnyH_take (i := 2) (v := undef) rfl ?_ ?_ ?_ (fun _ _ _ h => h) ?_ ?_ ?_; kernel_rfl; kernel_rfl; kernel_rfl; exact Or.inr ⟨by rfl, rfl⟩; exact hH) | (refine wpAnyH_take (i := 2) (v := ?_) rfl ?_ ?_ ?_ (fun _ _ _ h => h) ?_ ?_ ?_; rotate_left; kernel_rfl; kernel_rfl; kernel_rfl; (focus (refine Or.inl ⟨by rfl, ?_⟩; intro w' hSw; (try dsimp only at hSw); go_simp)); exact hH) | (refine wpAnyH_take (i := 2) (v := ?_) rfl ?_ ?_ ?_ (fun _ _ _ h => h) ?_ ?_ ?_; rotate_left; kernel_rfl; kernel_rfl; kernel_rfl; (focus (refine Or.inl ⟨by rfl, ?_⟩; intro w' hSw; (try dsimp only at hSw); go_simp; with_reducible rfl)); exact hH)
        try simp only [Act.put, List.getElem_toArray, List.getElem_cons_succ, List.getElem_cons_zero, List.setIfInBounds_toArray, List.set_cons_zero, List.set_cons_succ]
        first | (refine wpAnyH_take (i := 3) (v := undef) rfl ?_ ?_ ?_ (fun _ _ _ h => h) ?_ ?_ ?_; kernel_rfl; kernel_rfl; kernel_rfl; exact Or.inr ⟨by rfl, rfl⟩; exact hH) | (refine wpAnyH_take (i := 3) (v := ?_) rfl ?_ ?_ ?_ (fun _ _ _ h => h) ?_ ?_ ?_; rotate_left; kernel_rfl; kernel_rfl; kernel_rfl; (focus (refine Or.inl ⟨by rfl, ?_⟩; intro w' hSw; (try dsimp only at hSw); go_simp)); exact hH) | (refine wpAnyH_take (i := 3) (v := ?_) rfl ?_ ?_ ?_ (fun _ _ _ h => h) ?_ ?_ ?_; rotate_left; kernel_rfl; kernel_rfl; kernel_rfl; (focus (refine Or.inl ⟨by rfl, ?_⟩; intro w' hSw; (try dsimp only at hSw); go_simp; with_reducible rfl)); exact hH)
        try simp only [Act.put, List.getElem_toArray, List.getElem_cons_succ, List.getElem_cons_zero, List.setIfInBounds_toArray, List.set_cons_zero, List.set_cons_succ]
        refine wpAnyH_ready (rs := [4]) (by kernel_rfl) (by simp) ?_
        refine (AllReadyH.cons rfl (fun K hK => ?_) AllReadyH.nil)
        go_simp
        with_reducible refine (GR.out _).mono ?_
        rintro e w1 ⟨rfl, hb1'⟩
        have hb1 : Below (wj.heap.size) wj w1 := below_next hH.2 hb1'
        try go_wp2_with fail
        refine hK.out _ _ (KQ.out _ hb1) (fun hH1 => ?_)
        clear hK K hH
        have hH := hH1
        clear hH1
        try simp only [Act.put, List.getElem_toArray, List.getElem_cons_succ, List.getElem_cons_zero, List.setIfInBounds_toArray, List.set_cons_zero, List.set_cons_succ]
        first | (refine wpAnyH_take (i := 5) (v := undef) rfl ?_ ?_ ?_ (fun _ _ _ h => h) ?_ ?_ ?_; kernel_rfl; kernel_rfl; kernel_rfl; exact Or.inr ⟨by rfl, rfl⟩; exact hH) | (refine wpAnyH_take (i := 5) (v := ?_) rfl ?_ ?_ ?_ (fun _ _ _ h => h) ?_ ?_ ?_; rotate_left; kernel_rfl; kernel_rfl; kernel_rfl; (focus (refine Or.inl ⟨by rfl, ?_⟩; intro w' hSw; (try dsimp only at hSw); go_simp)); exact hH) | (refine wpAnyH_take (i := 5) (v := ?_) rfl ?_ ?_ ?_ (fun _ _ _ h => h) ?_ ?_ ?_; rotate_left; kernel_rfl; kernel_rfl; kernel_rfl; (focus (refine Or.inl ⟨by rfl, ?_⟩; intro w' hSw; (try dsimp only at hSw); go_simp; with_reducible rfl)); exact hH)
        try simp only [Act.put, List.getElem_toArray, List.getElem_cons_succ, List.getElem_cons_zero, List.setIfInBounds_toArray, List.set_cons_zero, List.set_cons_succ]
        first | (refine wpAnyH_take (i := 6) (v := undef) rfl ?_ ?_ ?_ (fun _ _ _ h => h) ?_ ?_ ?_; kernel_rfl; kernel_rfl; kernel_rfl; exact Or.inr ⟨by rfl, rfl⟩; exact hH) | (refine wpAnyH_take (i := 6) (v := ?_) rfl ?_ ?_ ?_ (fun _ _ _ h => h) ?_ ?_ ?_; rotate_left; kernel_rfl; kernel_rfl; kernel_rfl; (focus (refine Or.inl ⟨by rfl, ?_⟩; intro w' hSw; (try dsimp only at hSw); go_simp)); exact hH) | (refine wpAnyH_take (i := 6) (v := ?_) rfl ?_ ?_ ?_ (fun _ _ _ h => h) ?_ ?_ ?_; rotate_left; kernel_rfl; kernel_rfl; kernel_rfl; (focus (refine Or.inl ⟨by rfl, ?_⟩; intro w' hSw; (try dsimp only at hSw); go_simp; with_reducible rfl)); exact hH)
        try simp only [Act.put, List.getElem_toArray, List.getElem_cons_succ, List.getElem_cons_zero, List.setIfInBounds_toArray, List.set_cons_zero, List.set_cons_succ]
        refine wpAnyH_done (by kernel_rfl) ?_ _
        refine NoPanic.normal ?_
        clear hH
        have hbG := hb1
        try clear hH
        go_wp2_with fail
        go_returns
        have hfi := HG.out.1.next hbG
        have hok := H1.out.2.1.gain y0.id HGW.out
        have hin := (mem_ups.1 HY.out.2.1).1
        exact ⟨y0.id, gg, S1.gain y0.id gg, rfl, HGB.out.1, HGB.out.2, hfi, hok, H1.out.2.2.1.gain H1.out.2.1 HY.out.2.1 (fnd_of_mem H1.out.1.fam.ids hin) HY.out.1 HGB.out.1 HGB.out.2 HII.out, HSJ.out.trans (Spares.of_below hbG)⟩

  have n1 : (r == 1) = false := beq_eq_false_iff_ne.2 h1
  have n1' : decide (r = 1) = false := decide_eq_false h1
  clear h1
  by_cases h2 : r = 2
  · subst h2
    have WK := Lib.hid (fi_wake id8 H0.out.1 H0.out.2.1 (by have := HN.out; omega))
    go_wp2_with fail
    with_reducible refine (WK.out).mono ?_
    rintro e w2 ⟨rfl, hf1, hs1⟩
    have H1 := Lib.hid (And.intro hf1 (And.intro (H0.out.2.1.wake id8) (And.intro (H0.out.2.2.1.wake H0.out.2.1 id8) (And.intro (H0.out.2.2.2.1.trans hs1) (hs1 TB _ _ (by decide) (by decide) (by decide) (by decide) H0.out.2.2.2.2)))))
    obtain ⟨S1, hS1⟩ : ∃ z, S.wake id8 = z := ⟨_, rfl⟩
    rw [hS1] at H1
    clear hS1 hf1 hs1 WK z0 z1 z2 z3
    go_wp2_with fail
    with_reducible refine (fi_ids H1.out.1 H1.out.2.1 (by have := HN.out; omega)).mono ?_
    rintro e wi ⟨v, D, rfl, hL, hown, hbi⟩
    obtain ⟨A', c', rfl, -, hrow⟩ := row_form hown
    have HI := Lib.hid (And.intro (H1.out.1.next hbi) (And.intro (H1.out.2.2.2.2.next hbi) (And.intro hL (H1.out.2.2.2.1.trans (Spares.of_below hbi)))))
    have HROW := Lib.hid hrow
    obtain ⟨n, hn⟩ : ∃ n, D.length = n := ⟨_, rfl⟩
    have HLN := Lib.hid hn
    clear hL hown hbi hrow
    rw [hn]
    clear hn
    rcases Nat.eq_zero_or_pos n with hz | hz
    · subst hz
      go_wp2_with fail
      go_returns
      exact ⟨-1, 0, S1, rfl, Int.le_refl _, by decide, HI.out.1, H1.out.2.1, H1.out.2.2.1.more (by omega) (by have := H1.out.2.2.1.m1; omega) (Nat.le_succ _) HII.out, HI.out.2.2.2⟩
    · have hn := HLN.out
      obtain ⟨g', cs, rfl, -, hbg, hcs⟩ := HROW.out (by omega)
      have hv := H1.out.2.1.vok
      have f0 := (ids_first HI.out.2.2.1 hv (j := 0) (by omega)).1 rfl
      have i0 := HI.out.2.2.1.1.subset (List.getElem_mem (show 0 < D.length by omega))
      have q0 : cs[0]? = some (.int .i64 (D[0]'(by omega)).id) := hcs 0 _ (by rw [List.getElem?_map, List.getElem?_eq_getElem (by omega)]; rfl)
      generalize (D[0]'(by omega)) = y0 at f0 i0 q0
      have HY := Lib.hid (And.intro f0 (And.intro i0 (And.intro hbg q0)))
      have g1 : decide ((0 : Int) < (n : Int)) = true := decide_eq_true (by omega)
      have g2 : ((n : Int) == 0) = false := beq_eq_false_iff_ne.2 (by omega)
      have g3 : decide (n = 0) = false := decide_eq_false (by omega)
      have g4 : (n == 0) = false := beq_eq_false_iff_ne.2 (by omega)
      have g5 : (0 : Int) < (n : Int) := by omega
      have GA := Lib.hid (fun w' (hb : Below wi.heap.size wi w') => fi_gain y0.id gg (HI.out.1.next hb) H1.out.2.1 (by have := HN.out; omega) HGW.out)
      clear hn hbg hcs hv f0 i0 q0
      go_upto_region 15 with (fail)
      have KP : Hid (∀ w', Below (wi.heap.size) wi w' → (w'.cell? ⟨g', 0, none⟩ = some (.int .i64 y0.id) ∧ w'.cell? ⟨TB, 0, none⟩ = some (.int .u8 k) ∧ w'.cell? ⟨TB, 1, none⟩ = some (.int .i64 id) ∧ w'.cell? ⟨TB, 2, none⟩ = some (.int .u16 s) ∧ w'.cell? ⟨TB, 3, none⟩ = some (.int .u16 b)) ∧ Below (wi.heap.size) wi w') := fun w' hb => ⟨⟨(HY.out.2.2.1.next hb).get 0 HY.out.2.2.2, (HI.out.2.1.next hb).get 0 rfl, (HI.out.2.1.next hb).get 1 rfl, (HI.out.2.1.next hb).get 2 rfl, (HI.out.2.1.next hb).get 3 rfl⟩, hb⟩
      refine wp_region_noPanic ?_
      refine wp_region_Z [6] (fun w' => (w'.cell? ⟨g', 0, none⟩ = some (.int .i64 y0.id) ∧ w'.cell? ⟨TB, 0, none⟩ = some (.int .u8 k) ∧ w'.cell? ⟨TB, 1, none⟩ = some (.int .i64 id) ∧ w'.cell? ⟨TB, 2, none⟩ = some (.int .u16 s) ∧ w'.cell? ⟨TB, 3, none⟩ = some (.int .u16 b)) ∧ Below (wi.heap.size) wi w') (by kernel_rfl) (KP.out _ (below_of_drew ((Below.refl wi.heap.size wi)))) (fun hH => ?_)
      have hbR := below_of_drew ((Below.refl wi.heap.size wi))
      first | (refine wpAnyZ_takeC (i := 0) (v := undef) rfl ?_ ?_ ?_ ?_ (fun _ _ _ h => h) ?_ ?_ ?_; kernel_rfl; kernel_rfl; kernel_rfl; kernel_rfl; exact Or.inr ⟨by rfl, rfl⟩; exact hH) | (refine wpAnyZ_takeC (i := 0) (v := ?_) rfl ?_ ?_ ?_ ?_ (fun _ _ _ h => h) ?_ ?_ ?_; rotate_left; kernel_rfl; kernel_rfl; kernel_rfl; kernel_rfl; (focus (refine Or.inl ⟨by rfl, ?_⟩; intro w' hSw; (try dsimp only at hSw); go_simp)); exact hH) | (refine wpAnyZ_takeC (i := 0) (v := ?_) rfl ?_ ?_ ?_ ?_ (fun _ _ _ h => h) ?_ ?_ ?_; rotate_left; kernel_rfl; kernel_rfl; kernel_rfl; kernel_rfl; (focus (refine Or.inl ⟨by rfl, ?_⟩; intro w' hSw; (try dsimp only at hSw); go_simp; with_reducible rfl)); exact hH)
      try simp only [Act.put, List.getElem_toArray, List.getElem_cons_succ, List.getElem_cons_zero, List.setIfInBounds_toArray, List.set_cons_zero, List.set_cons_succ]
      first | (refine wpAnyZ_takeC (i := 1) (v := undef) rfl ?_ ?_ ?_ ?_ (fun _ _ _ h => h) ?_ ?_ ?_; kernel_rfl; kernel_rfl; kernel_rfl; kernel_rfl; exact Or.inr ⟨by rfl, rfl⟩; exact hH) | (refine wpAnyZ_takeC (i := 1) (v := ?_) rfl ?_ ?_ ?_ ?_ (fun _ _ _ h => h) ?_ ?_ ?_; rotate_left; kernel_rfl; kernel_rfl; kernel_rfl; kernel_rfl; (focus (refine Or.inl ⟨by rfl, ?_⟩; intro w' hSw; (try dsimp only at hSw); go_simp)); exact hH) | (refine wpAnyZ_takeC (i := 1) (v := ?_) rfl ?_ ?_ ?_ ?_ (fun _ _ _ h => h) ?_ ?_ ?_; rotate_left; kernel_rfl; kernel_rfl; kernel_rfl; kernel_rfl; (focus (refine Or.inl ⟨by rfl, ?_⟩; intro w' hSw; (try dsimp only at hSw); go_simp; with_reducible rfl)); exact hH)
      try simp only [Act.put, List.getElem_toArray, List.getElem_cons_succ, List.getElem_cons_zero, List.setIfInBounds_toArray, List.set_cons_zero, List.set_cons_succ]
      first | (refine wpAnyZ_takeC (i := 2) (v := undef) rfl ?_ ?_ ?_ ?_ (fun _ _ _ h => h) ?_ ?_ ?_; kernel_rfl; kernel_rfl; kernel_rfl; kernel_rfl; exact Or.inr ⟨by rfl, rfl⟩; exact hH) | (refine wpAnyZ_takeC (i := 2) (v := ?_) rfl ?_ ?_ ?_ ?_ (fun _ _ _ h => h) ?_ ?_ ?_; rotate_left; kernel_rfl; kernel_rfl; kernel_rfl; kernel_rfl; (focus (refine Or.inl ⟨by rfl, ?_⟩; intro w' hSw; (try dsimp only at hSw); go_simp)); exact hH) | (refine wpAnyZ_takeC (i := 2) (v := ?_) rfl ?_ ?_ ?_ ?_ (fun _ _ _ h => h) ?_ ?_ ?_; rotate_left; kernel_rfl; kernel_rfl; kernel_rfl; kernel_rfl; (focus (refine Or.inl ⟨by rfl, ?_⟩; intro w' hSw; (try dsimp only at hSw); go_simp; with_reducible rfl)); exact hH)
      try simp only [Act.put, List.getElem_toArray, List.getElem_cons_succ, List.getElem_cons_zero, List.setIfInBounds_toArray, List.set_cons_zero, List.set_cons_succ]
      first | (refine wpAnyZ_takeC (i := 3) (v := undef) rfl ?_ ?_ ?_ ?_ (fun _ _ _ h => h) ?_ ?_ ?_; kernel_rfl; kernel_rfl; kernel_rfl; kernel_rfl; exact Or.inr ⟨by rfl, rfl⟩; exact hH) | (refine wpAnyZ_takeC (i := 3) (v := ?_) rfl ?_ ?_ ?_ ?_ (fun _ _ _ h => h) ?_ ?_ ?_; rotate_left; kernel_rfl; kernel_rfl; kernel_rfl; kernel_rfl; (focus (refine Or.inl ⟨by rfl, ?_⟩; intro w' hSw; (try dsimp only at hSw); go_simp)); exact hH) | (refine wpAnyZ_takeC (i := 3) (v := ?_) rfl ?_ ?_ ?_ ?_ (fun _ _ _ h => h) ?_ ?_ ?_; rotate_left; kernel_rfl; kernel_rfl; kernel_rfl; kernel_rfl; (focus (refine Or.inl ⟨by rfl, ?_⟩; intro w' hSw; (try dsimp only at hSw); go_simp; with_reducible rfl)); exact hH)
      try simp only [Act.put, List.getElem_toArray, List.getElem_cons_succ, List.getElem_cons_zero, List.setIfInBounds_toArray, List.set_cons_zero, List.set_cons_succ]
      first | (refine wpAnyZ_takeC (i := 4) (v := undef) rfl ?_ ?_ ?_ ?_ (fun _ _ _ h => h) ?_ ?_ ?_; kernel_rfl; kernel_rfl; kernel_rfl; kernel_rfl; exact Or.inr ⟨by rfl, rfl⟩; exact hH) | (refine wpAnyZ_takeC (i := 4) (v := ?_) rfl ?_ ?_ ?_ ?_ (fun _ _ _ h => h) ?_ ?_ ?_; rotate_left; kernel_rfl; kernel_rfl; kernel_rfl; kernel_rfl; (focus (refine Or.inl ⟨by rfl, ?_⟩; intro w' hSw; (try dsimp only at hSw); go_simp)); exact hH) | (refine wpAnyZ_takeC (i := 4) (v := ?_) rfl ?_ ?_ ?_ ?_ (fun _ _ _ h => h) ?_ ?_ ?_; rotate_left; kernel_rfl; kernel_rfl; kernel_rfl; kernel_rfl; (focus (refine Or.inl ⟨by rfl, ?_⟩; intro w' hSw; (try dsimp only at hSw); go_simp; with_reducible rfl)); exact hH)
      try simp only [Act.put, List.getElem_toArray, List.getElem_cons_succ, List.getElem_cons_zero, List.setIfInBounds_toArray, List.set_cons_zero, List.set_cons_succ]
      refine wpAnyZ_ready (rs := [5]) (by kernel_rfl) (by simp) ?_
      refine (AllReadyZ.cons rfl (fun K hK => ?_) AllReadyZ.nil)
      go_simp
      with_reducible refine (GR.out _).mono ?_
      rintro e w1 ⟨rfl, hb1'⟩
      have hb1 : Below (wi.heap.size) wi w1 := below_next hH.2 hb1'
      try go_wp2_with fail
      have hH1 := KP.out _ hb1
      refine hK.out _ _ (fun _ => hH1) ?_
      clear hK K hH
      have hH := hH1
      clear hH1
      try simp only [Act.put, List.getElem_toArray, List.getElem_cons_succ, List.getElem_cons_zero, List.setIfInBounds_toArray, List.set_cons_zero, List.set_cons_succ]
      refine wpAnyZ_ready (rs := [6]) (by kernel_rfl) (by simp) ?_
      refine (AllReadyZ.cons rfl (fun K hK => ?_) AllReadyZ.nil)
      go_simp
      with_reducible refine (GA.out _ hb1).mono ?_
      rintro e wj ⟨rfl, hf2, hs2⟩
      have HG := Lib.hid (And.intro hf2 (And.intro hs2 hb1))
      clear hf2 hs2
      refine hK.out _ _ (fun h => absurd (by simp) h) ?_
      clear hK K
      try simp only [Act.put, List.getElem_toArray, List.getElem_cons_succ, List.getElem_cons_zero, List.setIfInBounds_toArray, List.set_cons_zero, List.set_cons_succ]
      refine wpAnyZ_done (by kernel_rfl) ?_ _
      refine NoPanic.normal ?_
      skip
      try clear hH
      have hsj : Spares wi wj := (Spares.of_below HG.out.2.2).trans HG.out.2.1
      have bgj := hsj g' _ cs (by decide) (by decide) (by decide) (by decide) HY.out.2.2.1
      have btj := hsj TB _ _ (by decide) (by decide) (by decide) (by decide) HI.out.2.1
      have HJ := Lib.hid (And.intro bgj btj)
      have HSJ := Lib.hid (HI.out.2.2.2.trans hsj)
      clear hsj bgj btj KP
      go_upto_region 16 with (fail)
      have KQ : Hid (∀ w', Below (wj.heap.size) wj w' → (w'.cell? ⟨g', 0, none⟩ = some (.int .i64 y0.id) ∧ w'.cell? ⟨TB, 0, none⟩ = some (.int .u8 k) ∧ w'.cell? ⟨TB, 1, none⟩ = some (.int .i64 id) ∧ w'.cell? ⟨TB, 2, none⟩ = some (.int .u16 s) ∧ w'.cell? ⟨TB, 3, none⟩ = some (.int .u16 b)) ∧ Below (wj.heap.size) wj w') := fun w' hb => ⟨⟨(HJ.out.1.next hb).get 0 HY.out.2.2.2, (HJ.out.2.next hb).get 0 rfl, (HJ.out.2.next hb).get 1 rfl, (HJ.out.2.next hb).get 2 rfl, (HJ.out.2.next hb).get 3 rfl⟩, hb⟩
      refine wp_region_noPanic ?_
      refine wp_region_held_drew (S := fun w' => (w'.cell? ⟨g', 0, none⟩ = some (.int .i64 y0.id) ∧ w'.cell? ⟨TB, 0, none⟩ = some (.int .u8 k) ∧ w'.cell? ⟨TB, 1, none⟩ = some (.int .i64 id) ∧ w'.cell? ⟨TB, 2, none⟩ = some (.int .u16 s) ∧ w'.cell? ⟨TB, 3, none⟩ = some (.int .u16 b)) ∧ Below (wj.heap.size) wj w') (by kernel_rfl) (KQ.out _ (below_of_drew ((Below.refl wj.heap.size wj)))) (fun hH => ?_)
      have hbR := below_of_drew ((Below.refl wj.heap.size wj))
      first | (refine wpAnyH_take (i := 0) (v := undef) rfl ?_ ?_ ?_ (fun _ _ _ h => h) ?_ ?_ ?_; kernel_rfl; kernel_rfl; kernel_rfl; exact Or.inr ⟨by rfl, rfl⟩; exact hH) | (refine wpAnyH_take (i := 0) (v := ?_) rfl ?_ ?_ ?_ (fun _ _ _ h => h) ?_ ?_ ?_; rotate_left; kernel_rfl; kernel_rfl; kernel_rfl; (focus (refine Or.inl ⟨by rfl, ?_⟩; intro w' hSw; (try dsimp only at hSw); go_simp)); exact hH) | (refine wpAnyH_take (i := 0) (v := ?_) rfl ?_ ?_ ?_ (fun _ _ _ h => h) ?_ ?_ ?_; rotate_left; kernel_rfl; kernel_rfl; kernel_rfl; (focus (refine Or.inl ⟨by rfl, ?_⟩; intro w' hSw; (try dsimp only at hSw); go_simp; with_reducible rfl)); exact hH)
      try simp only [Act.put, List.getElem_toArray, List.getElem_cons_succ, List.getElem_cons_zero, List.setIfInBounds_toArray, List.set_cons_zero, List.set_cons_succ]
      first | (refine wpAnyH_take (i := 1) (v := undef) rfl ?_ ?_ ?_ (fun _ _ _ h => h) ?_ ?_ ?_; kernel_rfl; kernel_rfl; kernel_rfl; exact Or.inr ⟨by rfl, rfl⟩; exact hH) | (refine wpAnyH_take (i := 1) (v := ?_) rfl ?_ ?_ ?_ (fun _ _ _ h => h) ?_ ?_ ?_; rotate_left; kernel_rfl; kernel_rfl; kernel_rfl; (focus (refine Or.inl ⟨by rfl, ?_⟩; intro w' hSw; (try dsimp only at hSw); go_simp)); exact hH) | (refine wpAnyH_take (i := 1) (v := ?_) rfl ?_ ?_ ?_ (fun _ _ _ h => h) ?_ ?_ ?_; rotate_left; kernel_rfl; kernel_rfl; kernel_rfl; (focus (refine Or.inl ⟨by rfl, ?_⟩; intro w' hSw; (try dsimp only at hSw); go_simp; with_reducible rfl)); exact hH)
      try simp only [Act.put, List.getElem_toArray, List.getElem_cons_succ, List.getElem_cons_zero, List.setIfInBounds_toArray, List.set_cons_zero, List.set_cons_succ]
      first | (refine wpAnyH_take (i := 2) (v := undef) rfl ?_ ?_ ?_ (fun _ _ _ h => h) ?_ ?_ ?_; kernel_rfl; kernel_rfl; kernel_rfl; exact Or.inr ⟨by rfl, rfl⟩; exact hH) | (refine wpAnyH_take (i := 2) (v := ?_) rfl ?_ ?_ ?_ (fun _ _ _ h => h) ?_ ?_ ?_; rotate_left; kernel_rfl; kernel_rfl; kernel_rfl; (focus (refine Or.inl ⟨by rfl, ?_⟩; intro w' hSw; (try dsimp only at hSw); go_simp)); exact hH) | (refine wpAnyH_take (i := 2) (v := ?_) rfl ?_ ?_ ?_ (fun _ _ _ h => h) ?_ ?_ ?_; rotate_left; kernel_rfl; kernel_rfl; kernel_rfl; (focus (refine Or.inl ⟨by rfl, ?_⟩; intro w' hSw; (try dsimp only at hSw); go_simp; with_reducible rfl)); exact hH)
      try simp only [Act.put, List.getElem_toArray, List.getElem_cons_succ, List.getElem_cons_zero, List.setIfInBounds_toArray, List.set_cons_zero, List.set_cons_succ]
      first | (refine wpAnyH_take (i := 3) (v := undef) rfl ?_ ?_ ?_ (fun _ _ _ h => h) ?_ ?_ ?_; kernel_rfl; kernel_rfl; kernel_rfl; exact Or.inr ⟨by rfl, rfl⟩; exact hH) | (refine wpAnyH_take (i := 3) (v := ?_) rfl ?_ ?_ ?_ (fun _ _ _ h => h) ?_ ?_ ?_; rotate_left; kernel_rfl; kernel_rfl; kernel_rfl; (focus (refine Or.inl ⟨by rfl, ?_⟩; intro w' hSw; (try dsimp only at hSw); go_simp)); exact hH) | (refine wpAnyH_take (i := 3) (v := ?_) rfl ?_ ?_ ?_ (fun _ _ _ h => h) ?_ ?_ ?_; rotate_left; kernel_rfl; kernel_rfl; kernel_rfl; (focus (refine Or.inl ⟨by rfl, ?_⟩; intro w' hSw; (try dsimp only at hSw); go_simp; with_reducible rfl)); exact hH)
      try simp only [Act.put, List.getElem_toArray, List.getElem_cons_succ, List.getElem_cons_zero, List.setIfInBounds_toArray, List.set_cons_zero, List.set_cons_succ]
      refine wpAnyH_ready (rs := [4]) (by kernel_rfl) (by simp) ?_
      refine (AllReadyH.cons rfl (fun K hK => ?_) AllReadyH.nil)
      go_simp
      with_reducible refine (GR.out _).mono ?_
      rintro e w1 ⟨rfl, hb1'⟩
      have hb1 : Below (wj.heap.size) wj w1 := below_next hH.2 hb1'
      try go_wp2_with fail
      refine hK.out _ _ (KQ.out _ hb1) (fun hH1 => ?_)
      clear hK K hH
      have hH := hH1
      clear hH1
      try simp only [Act.put, List.getElem_toArray, List.getElem_cons_succ, List.getElem_cons_zero, List.setIfInBounds_toArray, List.set_cons_zero, List.set_cons_succ]
      first | (refine wpAnyH_take (i := 5) (v := undef) rfl ?_ ?_ ?_ (fun _ _ _ h => h) ?_ ?_ ?_; kernel_rfl; kernel_rfl; kernel_rfl; exact Or.inr ⟨by rfl, rfl⟩; exact hH) | (refine wpAnyH_take (i := 5) (v := ?_) rfl ?_ ?_ ?_ (fun _ _ _ h => h) ?_ ?_ ?_; rotate_left; kernel_rfl; kernel_rfl; kernel_rfl; (focus (refine Or.inl ⟨by rfl, ?_⟩; intro w' hSw; (try dsimp only at hSw); go_simp)); exact hH) | (refine wpAnyH_take (i := 5) (v := ?_) rfl ?_ ?_ ?_ (fun _ _ _ h => h) ?_ ?_ ?_; rotate_left; kernel_rfl; kernel_rfl; kernel_rfl; (focus (refine Or.inl ⟨by rfl, ?_⟩; intro w' hSw; (try dsimp only at hSw); go_simp; with_reducible rfl)); exact hH)
      try simp only [Act.put, List.getElem_toArray, List.getElem_cons_succ, List.getElem_cons_zero, List.setIfInBounds_toArray, List.set_cons_zero, List.set_cons_succ]
      first | (refine wpAnyH_take (i := 6) (v := undef) rfl ?_ ?_ ?_ (fun _ _ _ h => h) ?_ ?_ ?_; kernel_rfl; kernel_rfl; kernel_rfl; exact Or.inr ⟨by rfl, rfl⟩; exact hH) | (refine wpAnyH_take (i := 6) (v := ?_) rfl ?_ ?_ ?_ (fun _ _ _ h => h) ?_ ?_ ?_; rotate_left; kernel_rfl; kernel_rfl; kernel_rfl; (focus (refine Or.inl ⟨by rfl, ?_⟩; intro w' hSw; (try dsimp only at hSw); go_simp)); exact hH) | (refine wpAnyH_take (i := 6) (v := ?_) rfl ?_ ?_ ?_ (fun _ _ _ h => h) ?_ ?_ ?_; rotate_left; kernel_rfl; kernel_rfl; kernel_rfl; (focus (refine Or.inl ⟨by rfl, ?_⟩; intro w' hSw; (try dsimp only at hSw); go_simp; with_reducible rfl)); exact hH)
      try simp only [Act.put, List.getElem_toArray, List.getElem_cons_succ, List.getElem_cons_zero, List.setIfInBounds_toArray, List.set_cons_zero, List.set_cons_succ]
      refine wpAnyH_done (by kernel_rfl) ?_ _
      refine NoPanic.normal ?_
      clear hH
      have hbG := hb1
      try clear hH
      go_wp2_with fail
      go_returns
      have hfi := HG.out.1.next hbG
      have hok := H1.out.2.1.gain y0.id HGW.out
      have hin := (mem_ups.1 HY.out.2.1).1
      exact ⟨y0.id, gg, S1.gain y0.id gg, rfl, HGB.out.1, HGB.out.2, hfi, hok, H1.out.2.2.1.gain H1.out.2.1 HY.out.2.1 (fnd_of_mem H1.out.1.fam.ids hin) HY.out.1 HGB.out.1 HGB.out.2 HII.out, HSJ.out.trans (Spares.of_below hbG)⟩

  have n2 : (r == 2) = false := beq_eq_false_iff_ne.2 h2
  have n2' : decide (r = 2) = false := decide_eq_false h2
  clear h2
  by_cases h3 : r = 3
  · subst h3
    have WK := Lib.hid (fi_sleep id8 H0.out.1)
    go_wp2_with fail
    with_reducible refine (WK.out).mono ?_
    rintro e w2 ⟨rfl, hf1, hs1⟩
    have H1 := Lib.hid (And.intro hf1 (And.intro ((H0.out.2.1.sleep id8).more (Nat.le_succ _)) (And.intro (H0.out.2.2.1.sleep H0.out.2.1 id8) (And.intro (H0.out.2.2.2.1.trans hs1) (hs1 TB _ _ (by decide) (by decide) (by decide) (by decide) H0.out.2.2.2.2)))))
    obtain ⟨S1, hS1⟩ : ∃ z, S.sleep id8 = z := ⟨_, rfl⟩
    rw [hS1] at H1
    clear hS1 hf1 hs1 WK z0 z1 z2 z3
    go_wp2_with fail
    with_reducible refine (fi_ids H1.out.1 H1.out.2.1 (by have := HN.out; omega)).mono ?_
    rintro e wi ⟨v, D, rfl, hL, hown, hbi⟩
    obtain ⟨A', c', rfl, -, hrow⟩ := row_form hown
    have HI := Lib.hid (And.intro (H1.out.1.next hbi) (And.intro (H1.out.2.2.2.2.next hbi) (And.intro hL (H1.out.2.2.2.1.trans (Spares.of_below hbi)))))
    have HROW := Lib.hid hrow
    obtain ⟨n, hn⟩ : ∃ n, D.length = n := ⟨_, rfl⟩
    have HLN := Lib.hid hn
    clear hL hown hbi hrow
    rw [hn]
    clear hn
    rcases Nat.eq_zero_or_pos n with hz | hz
    · subst hz
      go_wp2_with fail
      go_returns
      exact ⟨-1, 0, S1, rfl, Int.le_refl _, by decide, HI.out.1, H1.out.2.1, H1.out.2.2.1.more (by omega) (by have := H1.out.2.2.1.m1; omega) (Nat.le_succ _) HII.out, HI.out.2.2.2⟩
    · have hn := HLN.out
      obtain ⟨g', cs, rfl, -, hbg, hcs⟩ := HROW.out (by omega)
      have hv := H1.out.2.1.vok
      have f0 := (ids_first HI.out.2.2.1 hv (j := 0) (by omega)).1 rfl
      have i0 := HI.out.2.2.1.1.subset (List.getElem_mem (show 0 < D.length by omega))
      have q0 : cs[0]? = some (.int .i64 (D[0]'(by omega)).id) := hcs 0 _ (by rw [List.getElem?_map, List.getElem?_eq_getElem (by omega)]; rfl)
      generalize (D[0]'(by omega)) = y0 at f0 i0 q0
      have HY := Lib.hid (And.intro f0 (And.intro i0 (And.intro hbg q0)))
      have g1 : decide ((0 : Int) < (n : Int)) = true := decide_eq_true (by omega)
      have g2 : ((n : Int) == 0) = false := beq_eq_false_iff_ne.2 (by omega)
      have g3 : decide (n = 0) = false := decide_eq_false (by omega)
      have g4 : (n == 0) = false := beq_eq_false_iff_ne.2 (by omega)
      have g5 : (0 : Int) < (n : Int) := by omega
      have GA := Lib.hid (fun w' (hb : Below wi.heap.size wi w') => fi_gain y0.id gg (HI.out.1.next hb) H1.out.2.1 (by have := HN.out; omega) HGW.out)
      clear hn hbg hcs hv f0 i0 q0
      go_upto_region 15 with (fail)
      have KP : Hid (∀ w', Below (wi.heap.size) wi w' → (w'.cell? ⟨g', 0, none⟩ = some (.int .i64 y0.id) ∧ w'.cell? ⟨TB, 0, none⟩ = some (.int .u8 k) ∧ w'.cell? ⟨TB, 1, none⟩ = some (.int .i64 id) ∧ w'.cell? ⟨TB, 2, none⟩ = some (.int .u16 s) ∧ w'.cell? ⟨TB, 3, none⟩ = some (.int .u16 b)) ∧ Below (wi.heap.size) wi w') := fun w' hb => ⟨⟨(HY.out.2.2.1.next hb).get 0 HY.out.2.2.2, (HI.out.2.1.next hb).get 0 rfl, (HI.out.2.1.next hb).get 1 rfl, (HI.out.2.1.next hb).get 2 rfl, (HI.out.2.1.next hb).get 3 rfl⟩, hb⟩
      refine wp_region_noPanic ?_
      refine wp_region_Z [6] (fun w' => (w'.cell? ⟨g', 0, none⟩ = some (.int .i64 y0.id) ∧ w'.cell? ⟨TB, 0, none⟩ = some (.int .u8 k) ∧ w'.cell? ⟨TB, 1, none⟩ = some (.int .i64 id) ∧ w'.cell? ⟨TB, 2, none⟩ = some (.int .u16 s) ∧ w'.cell? ⟨TB, 3, none⟩ = some (.int .u16 b)) ∧ Below (wi.heap.size) wi w') (by kernel_rfl) (KP.out _ (below_of_drew ((Below.refl wi.heap.size wi)))) (fun hH => ?_)
      have hbR := below_of_drew ((Below.refl wi.heap.size wi))
      first | (refine wpAnyZ_takeC (i := 0) (v := undef) rfl ?_ ?_ ?_ ?_ (fun _ _ _ h => h) ?_ ?_ ?_; kernel_rfl; kernel_rfl; kernel_rfl; kernel_rfl; exact Or.inr ⟨by rfl, rfl⟩; exact hH) | (refine wpAnyZ_takeC (i := 0) (v := ?_) rfl ?_ ?_ ?_ ?_ (fun _ _ _ h => h) ?_ ?_ ?_; rotate_left; kernel_rfl; kernel_rfl; kernel_rfl; kernel_rfl; (focus (refine Or.inl ⟨by rfl, ?_⟩; intro w' hSw; (try dsimp only at hSw); go_simp)); exact hH) | (refine wpAnyZ_takeC (i := 0) (v := ?_) rfl ?_ ?_ ?_ ?_ (fun _ _ _ h => h) ?_ ?_ ?_; rotate_left; kernel_rfl; kernel_rfl; kernel_rfl; kernel_rfl; (focus (refine Or.inl ⟨by rfl, ?_⟩; intro w' hSw; (try dsimp only at hSw); go_simp; with_reducible rfl)); exact hH)
      try simp only [Act.put, List.getElem_toArray, List.getElem_cons_succ, List.getElem_cons_zero, List.setIfInBounds_toArray, List.set_cons_zero, List.set_cons_succ]
      first | (refine wpAnyZ_takeC (i := 1) (v := undef) rfl ?_ ?_ ?_ ?_ (fun _ _ _ h => h) ?_ ?_ ?_; kernel_rfl; kernel_rfl; kernel_rfl; kernel_rfl; exact Or.inr ⟨by rfl, rfl⟩; exact hH) | (refine wpAnyZ_takeC (i := 1) (v := ?_) rfl ?_ ?_ ?_ ?_ (fun _ _ _ h => h) ?_ ?_ ?_; rotate_left; kernel_rfl; kernel_rfl; kernel_rfl; kernel_rfl; (focus (refine Or.inl ⟨by rfl, ?_⟩; intro w' hSw; (try dsimp only at hSw); go_simp)); exact hH) | (refine wpAnyZ_takeC (i := 1) (v := ?_) rfl ?_ ?_ ?_ ?_ (fun _ _ _ h => h) ?_ ?_ ?_; rotate_left; kernel_rfl; kernel_rfl; kernel_rfl; kernel_rfl; (focus (refine Or.inl ⟨by rfl, ?_⟩; intro w' hSw; (try dsimp only at hSw); go_simp; with_reducible rfl)); exact hH)
      try simp only [Act.put, List.getElem_toArray, List.getElem_cons_succ, List.getElem_cons_zero, List.setIfInBounds_toArray, List.set_cons_zero, List.set_cons_succ]
      first | (refine wpAnyZ_takeC (i := 2) (v := undef) rfl ?_ ?_ ?_ ?_ (fun _ _ _ h => h) ?_ ?_ ?_; kernel_rfl; kernel_rfl; kernel_rfl; kernel_rfl; exact Or.inr ⟨by rfl, rfl⟩; exact hH) | (refine wpAnyZ_takeC (i := 2) (v := ?_) rfl ?_ ?_ ?_ ?_ (fun _ _ _ h => h) ?_ ?_ ?_; rotate_left; kernel_rfl; kernel_rfl; kernel_rfl; kernel_rfl; (focus (refine Or.inl ⟨by rfl, ?_⟩; intro w' hSw; (try dsimp only at hSw); go_simp)); exact hH) | (refine wpAnyZ_takeC (i := 2) (v := ?_) rfl ?_ ?_ ?_ ?_ (fun _ _ _ h => h) ?_ ?_ ?_; rotate_left; kernel_rfl; kernel_rfl; kernel_rfl; kernel_rfl; (focus (refine Or.inl ⟨by rfl, ?_⟩; intro w' hSw; (try dsimp only at hSw); go_simp; with_reducible rfl)); exact hH)
      try simp only [Act.put, List.getElem_toArray, List.getElem_cons_succ, List.getElem_cons_zero, List.setIfInBounds_toArray, List.set_cons_zero, List.set_cons_succ]
      first | (refine wpAnyZ_takeC (i := 3) (v := undef) rfl ?_ ?_ ?_ ?_ (fun _ _ _ h => h) ?_ ?_ ?_; kernel_rfl; kernel_rfl; kernel_rfl; kernel_rfl; exact Or.inr ⟨by rfl, rfl⟩; exact hH) | (refine wpAnyZ_takeC (i := 3) (v := ?_) rfl ?_ ?_ ?_ ?_ (fun _ _ _ h => h) ?_ ?_ ?_; rotate_left; kernel_rfl; kernel_rfl; kernel_rfl; kernel_rfl; (focus (refine Or.inl ⟨by rfl, ?_⟩; intro w' hSw; (try dsimp only at hSw); go_simp)); exact hH) | (refine wpAnyZ_takeC (i := 3) (v := ?_) rfl ?_ ?_ ?_ ?_ (fun _ _ _ h => h) ?_ ?_ ?_; rotate_left; kernel_rfl; kernel_rfl; kernel_rfl; kernel_rfl; (focus (refine Or.inl ⟨by rfl, ?_⟩; intro w' hSw; (try dsimp only at hSw); go_simp; with_reducible rfl)); exact hH)
      try simp only [Act.put, List.getElem_toArray, List.getElem_cons_succ, List.getElem_cons_zero, List.setIfInBounds_toArray, List.set_cons_zero, List.set_cons_succ]
      first | (refine wpAnyZ_takeC (i := 4) (v := undef) rfl ?_ ?_ ?_ ?_ (fun _ _ _ h => h) ?_ ?_ ?_; kernel_rfl; kernel_rfl; kernel_rfl; kernel_rfl; exact Or.inr ⟨by rfl, rfl⟩; exact hH) | (refine wpAnyZ_takeC (i := 4) (v := ?_) rfl ?_ ?_ ?_ ?_ (fun _ _ _ h => h) ?_ ?_ ?_; rotate_left; kernel_rfl; kernel_rfl; kernel_rfl; kernel_rfl; (focus (refine Or.inl ⟨by rfl, ?_⟩; intro w' hSw; (try dsimp only at hSw); go_simp)); exact hH) | (refine wpAnyZ_takeC (i := 4) (v := ?_) rfl ?_ ?_ ?_ ?_ (fun _ _ _ h => h) ?_ ?_ ?_; rotate_left; kernel_rfl; kernel_rfl; kernel_rfl; kernel_rfl; (focus (refine Or.inl ⟨by rfl, ?_⟩; intro w' hSw; (try dsimp only at hSw); go_simp; with_reducible rfl)); exact hH)
      try simp only [Act.put, List.getElem_toArray, List.getElem_cons_succ, List.getElem_cons_zero, List.setIfInBounds_toArray, List.set_cons_zero, List.set_cons_succ]
      refine wpAnyZ_ready (rs := [5]) (by kernel_rfl) (by simp) ?_
      refine (AllReadyZ.cons rfl (fun K hK => ?_) AllReadyZ.nil)
      go_simp
      with_reducible refine (GR.out _).mono ?_
      rintro e w1 ⟨rfl, hb1'⟩
      have hb1 : Below (wi.heap.size) wi w1 := below_next hH.2 hb1'
      try go_wp2_with fail
      have hH1 := KP.out _ hb1
      refine hK.out _ _ (fun _ => hH1) ?_
      clear hK K hH
      have hH := hH1
      clear hH1
      try simp only [Act.put, List.getElem_toArray, List.getElem_cons_succ, List.getElem_cons_zero, List.setIfInBounds_toArray, List.set_cons_zero, List.set_cons_succ]
      refine wpAnyZ_ready (rs := [6]) (by kernel_rfl) (by simp) ?_
      refine (AllReadyZ.cons rfl (fun K hK => ?_) AllReadyZ.nil)
      go_simp
      with_reducible refine (GA.out _ hb1).mono ?_
      rintro e wj ⟨rfl, hf2, hs2⟩
      have HG := Lib.hid (And.intro hf2 (And.intro hs2 hb1))
      clear hf2 hs2
      refine hK.out _ _ (fun h => absurd (by simp) h) ?_
      clear hK K
      try simp only [Act.put, List.getElem_toArray, List.getElem_cons_succ, List.getElem_cons_zero, List.setIfInBounds_toArray, List.set_cons_zero, List.set_cons_succ]
      refine wpAnyZ_done (by kernel_rfl) ?_ _
      refine NoPanic.normal ?_
      skip
      try clear hH
      have hsj : Spares wi wj := (Spares.of_below HG.out.2.2).trans HG.out.2.1
      have bgj := hsj g' _ cs (by decide) (by decide) (by decide) (by decide) HY.out.2.2.1
      have btj := hsj TB _ _ (by decide) (by decide) (by decide) (by decide) HI.out.2.1
      have HJ := Lib.hid (And.intro bgj btj)
      have HSJ := Lib.hid (HI.out.2.2.2.trans hsj)
      clear hsj bgj btj KP
      go_upto_region 16 with (fail)
      have KQ : Hid (∀ w', Below (wj.heap.size) wj w' → (w'.cell? ⟨g', 0, none⟩ = some (.int .i64 y0.id) ∧ w'.cell? ⟨TB, 0, none⟩ = some (.int .u8 k) ∧ w'.cell? ⟨TB, 1, none⟩ = some (.int .i64 id) ∧ w'.cell? ⟨TB, 2, none⟩ = some (.int .u16 s) ∧ w'.cell? ⟨TB, 3, none⟩ = some (.int .u16 b)) ∧ Below (wj.heap.size) wj w') := fun w' hb => ⟨⟨(HJ.out.1.next hb).get 0 HY.out.2.2.2, (HJ.out.2.next hb).get 0 rfl, (HJ.out.2.next hb).get 1 rfl, (HJ.out.2.next hb).get 2 rfl, (HJ.out.2.next hb).get 3 rfl⟩, hb⟩
      refine wp_region_noPanic ?_
      refine wp_region_held_drew (S := fun w' => (w'.cell? ⟨g', 0, none⟩ = some (.int .i64 y0.id) ∧ w'.cell? ⟨TB, 0, none⟩ = some (.int .u8 k) ∧ w'.cell? ⟨TB, 1, none⟩ = some (.int .i64 id) ∧ w'.cell? ⟨TB, 2, none⟩ = some (.int .u16 s) ∧ w'.cell? ⟨TB, 3, none⟩ = some (.int .u16 b)) ∧ Below (wj.heap.size) wj w') (by kernel_rfl) (KQ.out _ (below_of_drew ((Below.refl wj.heap.size wj)))) (fun hH => ?_)
      have hbR := below_of_drew ((Below.refl wj.heap.size wj))
      first | (refine wpAnyH_take (i := 0) (v := undef) rfl ?_ ?_ ?_ (fun _ _ _ h => h) ?_ ?_ ?_; kernel_rfl; kernel_rfl; kernel_rfl; exact Or.inr ⟨by rfl, rfl⟩; exact hH) | (refine wpAnyH_take (i := 0) (v := ?_) rfl ?_ ?_ ?_ (fun _ _ _ h => h) ?_ ?_ ?_; rotate_left; kernel_rfl; kernel_rfl; kernel_rfl; (focus (refine Or.inl ⟨by rfl, ?_⟩; intro w' hSw; (try dsimp only at hSw); go_simp)); exact hH) | (refine wpAnyH_take (i := 0) (v := ?_) rfl ?_ ?_ ?_ (fun _ _ _ h => h) ?_ ?_ ?_; rotate_left; kernel_rfl; kernel_rfl; kernel_rfl; (focus (refine Or.inl ⟨by rfl, ?_⟩; intro w' hSw; (try dsimp only at hSw); go_simp; with_reducible rfl)); exact hH)
      try simp only [Act.put, List.getElem_toArray, List.getElem_cons_succ, List.getElem_cons_zero, List.setIfInBounds_toArray, List.set_cons_zero, List.set_cons_succ]
      first | (refine wpAnyH_take (i := 1) (v := undef) rfl ?_ ?_ ?_ (fun _ _ _ h => h) ?_ ?_ ?_; kernel_rfl; kernel_rfl; kernel_rfl; exact Or.inr ⟨by rfl, rfl⟩; exact hH) | (refine wpAnyH_take (i := 1) (v := ?_) rfl ?_ ?_ ?_ (fun _ _ _ h => h) ?_ ?_ ?_; rotate_left; kernel_rfl; kernel_rfl; kernel_rfl; (focus (refine Or.inl ⟨by rfl, ?_⟩; intro w' hSw; (try dsimp only at hSw); go_simp)); exact hH) | (refine wpAnyH_take (i := 1) (v := ?_) rfl ?_ ?_ ?_ (fun _ _ _ h => h) ?_ ?_ ?_; rotate_left; kernel_rfl; kernel_rfl; kernel_rfl; (focus (refine Or.inl ⟨by rfl, ?_⟩; intro w' hSw; (try dsimp only at hSw); go_simp; with_reducible rfl)); exact hH)
      try simp only [Act.put, List.getElem_toArray, List.getElem_cons_succ, List.getElem_cons_zero, List.setIfInBounds_toArray, List.set_cons_zero, List.set_cons_succ]
      first | (refine wpAnyH_take (i := 2) (v := undef) rfl ?_ ?_ ?_ (fun _ _ _ h => h) ?_ ?_ ?_; kernel_rfl; kernel_rfl; kernel_rfl; exact Or.inr ⟨by rfl, rfl⟩; exact hH) | (refine wpAnyH_take (i := 2) (v := ?_) rfl ?_ ?_ ?_ (fun _ _ _ h => h) ?_ ?_ ?_; rotate_left; kernel_rfl; kernel_rfl; kernel_rfl; (focus (refine Or.inl ⟨by rfl, ?_⟩; intro w' hSw; (try dsimp only at hSw); go_simp)); exact hH) | (refine wpAnyH_take (i := 2) (v := ?_) rfl ?_ ?_ ?_ (fun _ _ _ h => h) ?_ ?_ ?_; rotate_left; kernel_rfl; kernel_rfl; kernel_rfl; (focus (refine Or.inl ⟨by rfl, ?_⟩; intro w' hSw; (try dsimp only at hSw); go_simp; with_reducible rfl)); exact hH)
      try simp only [Act.put, List.getElem_toArray, List.getElem_cons_succ, List.getElem_cons_zero, List.setIfInBounds_toArray, List.set_cons_zero, List.set_cons_succ]
      first | (refine wpAnyH_take (i := 3) (v := undef) rfl ?_ ?_ ?_ (fun _ _ _ h => h) ?_ ?_ ?_; kernel_rfl; kernel_rfl; kernel_rfl; exact Or.inr ⟨by rfl, rfl⟩; exact hH) | (refine wpAnyH_take (i := 3) (v := ?_) rfl ?_ ?_ ?_ (fun _ _ _ h => h) ?_ ?_ ?_; rotate_left; kernel_rfl; kernel_rfl; kernel_rfl; (focus (refine Or.inl ⟨by rfl, ?_⟩; intro w' hSw; (try dsimp only at hSw); go_simp)); exact hH) | (refine wpAnyH_take (i := 3) (v := ?_) rfl ?_ ?_ ?_ (fun _ _ _ h => h) ?_ ?_ ?_; rotate_left; kernel_rfl; kernel_rfl; kernel_rfl; (focus (refine Or.inl ⟨by rfl, ?_⟩; intro w' hSw; (try dsimp only at hSw); go_simp; with_reducible rfl)); exact hH)
      try simp only [Act.put, List.getElem_toArray, List.getElem_cons_succ, List.getElem_cons_zero, List.setIfInBounds_toArray, List.set_cons_zero, List.set_cons_succ]
      refine wpAnyH_ready (rs := [4]) (by kernel_rfl) (by simp) ?_
      refine (AllReadyH.cons rfl (fun K hK => ?_) AllReadyH.nil)
      go_simp
      with_reducible refine (GR.out _).mono ?_
      rintro e w1 ⟨rfl, hb1'⟩
      have hb1 : Below (wj.heap.size) wj w1 := below_next hH.2 hb1'
      try go_wp2_with fail
      refine hK.out _ _ (KQ.out _ hb1) (fun hH1 => ?_)
      clear hK K hH
      have hH := hH1
      clear hH1
      try simp only [Act.put, List.getElem_toArray, List.getElem_cons_succ, List.getElem_cons_zero, List.setIfInBounds_toArray, List.set_cons_zero, List.set_cons_succ]
      first | (refine wpAnyH_take (i := 5) (v := undef) rfl ?_ ?_ ?_ (fun _ _ _ h => h) ?_ ?_ ?_; kernel_rfl; kernel_rfl; kernel_rfl; exact Or.inr ⟨by rfl, rfl⟩; exact hH) | (refine wpAnyH_take (i := 5) (v := ?_) rfl ?_ ?_ ?_ (fun _ _ _ h => h) ?_ ?_ ?_; rotate_left; kernel_rfl; kernel_rfl; kernel_rfl; (focus (refine Or.inl ⟨by rfl, ?_⟩; intro w' hSw; (try dsimp only at hSw); go_simp)); exact hH) | (refine wpAnyH_take (i := 5) (v := ?_) rfl ?_ ?_ ?_ (fun _ _ _ h => h) ?_ ?_ ?_; rotate_left; kernel_rfl; kernel_rfl; kernel_rfl; (focus (refine Or.inl ⟨by rfl, ?_⟩; intro w' hSw; (try dsimp only at hSw); go_simp; with_reducible rfl)); exact hH)
      try simp only [Act.put, List.getElem_toArray, List.getElem_cons_succ, List.getElem_cons_zero, List.setIfInBounds_toArray, List.set_cons_zero, List.set_cons_succ]
      first | (refine wpAnyH_take (i := 6) (v := undef) rfl ?_ ?_ ?_ (fun _ _ _ h => h) ?_ ?_ ?_; kernel_rfl; kernel_rfl; kernel_rfl; exact Or.inr ⟨by rfl, rfl⟩; exact hH) | (refine wpAnyH_take (i := 6) (v := ?_) rfl ?_ ?_ ?_ (fun _ _ _ h => h) ?_ ?_ ?_; rotate_left; kernel_rfl; kernel_rfl; kernel_rfl; (focus (refine Or.inl ⟨by rfl, ?_⟩; intro w' hSw; (try dsimp only at hSw); go_simp)); exact hH) | (refine wpAnyH_take (i := 6) (v := ?_) rfl ?_ ?_ ?_ (fun _ _ _ h => h) ?_ ?_ ?_; rotate_left; kernel_rfl; kernel_rfl; kernel_rfl; (focus (refine Or.inl ⟨by rfl, ?_⟩; intro w' hSw; (try dsimp only at hSw); go_simp; with_reducible rfl)); exact hH)
      try simp only [Act.put, List.getElem_toArray, List.getElem_cons_succ, List.getElem_cons_zero, List.setIfInBounds_toArray, List.set_cons_zero, List.set_cons_succ]
      refine wpAnyH_done (by kernel_rfl) ?_ _
      refine NoPanic.normal ?_
      clear hH
      have hbG := hb1
      try clear hH
      go_wp2_with fail
      go_returns
      have hfi := HG.out.1.next hbG
      have hok := H1.out.2.1.gain y0.id HGW.out
      have hin := (mem_ups.1 HY.out.2.1).1
      exact ⟨y0.id, gg, S1.gain y0.id gg, rfl, HGB.out.1, HGB.out.2, hfi, hok, H1.out.2.2.1.gain H1.out.2.1 HY.out.2.1 (fnd_of_mem H1.out.1.fam.ids hin) HY.out.1 HGB.out.1 HGB.out.2 HII.out, HSJ.out.trans (Spares.of_below hbG)⟩

  have n3 : (r == 3) = false := beq_eq_false_iff_ne.2 h3
  have n3' : decide (r = 3) = false := decide_eq_false h3
  clear h3
  have H1 : Hid (FamIn B w0 wt f mb S ∧ S.ok (N + 1) ∧ Strt l M i S ∧ Spares w wt ∧ Blk wt TB 56 #[.int .u8 k, .int .i64 id, .int .u16 s, .int .u16 b]) := ⟨H0.out.1, H0.out.2.1.more (Nat.le_succ _), H0.out.2.2⟩
  obtain ⟨S1, hS1⟩ : ∃ z, S = z := ⟨_, rfl⟩
  rw [hS1] at H1
  clear hS1
  go_wp2_with fail
  with_reducible refine (fi_ids H1.out.1 H1.out.2.1 (by have := HN.out; omega)).mono ?_
  rintro e wi ⟨v, D, rfl, hL, hown, hbi⟩
  obtain ⟨A', c', rfl, -, hrow⟩ := row_form hown
  have HI := Lib.hid (And.intro (H1.out.1.next hbi) (And.intro (H1.out.2.2.2.2.next hbi) (And.intro hL (H1.out.2.2.2.1.trans (Spares.of_below hbi)))))
  have HROW := Lib.hid hrow
  obtain ⟨n, hn⟩ : ∃ n, D.length = n := ⟨_, rfl⟩
  have HLN := Lib.hid hn
  clear hL hown hbi hrow
  rw [hn]
  clear hn
  rcases Nat.eq_zero_or_pos n with hz | hz
  · subst hz
    go_wp2_with fail
    go_returns
    exact ⟨-1, 0, S1, rfl, Int.le_refl _, by decide, HI.out.1, H1.out.2.1, H1.out.2.2.1.more (by omega) (by have := H1.out.2.2.1.m1; omega) (Nat.le_succ _) HII.out, HI.out.2.2.2⟩
  · have hn := HLN.out
    obtain ⟨g', cs, rfl, -, hbg, hcs⟩ := HROW.out (by omega)
    have hv := H1.out.2.1.vok
    have f0 := (ids_first HI.out.2.2.1 hv (j := 0) (by omega)).1 rfl
    have i0 := HI.out.2.2.1.1.subset (List.getElem_mem (show 0 < D.length by omega))
    have q0 : cs[0]? = some (.int .i64 (D[0]'(by omega)).id) := hcs 0 _ (by rw [List.getElem?_map, List.getElem?_eq_getElem (by omega)]; rfl)
    generalize (D[0]'(by omega)) = y0 at f0 i0 q0
    have HY := Lib.hid (And.intro f0 (And.intro i0 (And.intro hbg q0)))
    have g1 : decide ((0 : Int) < (n : Int)) = true := decide_eq_true (by omega)
    have g2 : ((n : Int) == 0) = false := beq_eq_false_iff_ne.2 (by omega)
    have g3 : decide (n = 0) = false := decide_eq_false (by omega)
    have g4 : (n == 0) = false := beq_eq_false_iff_ne.2 (by omega)
    have g5 : (0 : Int) < (n : Int) := by omega
    have GA := Lib.hid (fun w' (hb : Below wi.heap.size wi w') => fi_gain y0.id gg (HI.out.1.next hb) H1.out.2.1 (by have := HN.out; omega) HGW.out)
    clear hn hbg hcs hv f0 i0 q0
    go_upto_region 15 with (fail)
    have KP : Hid (∀ w', Below (wi.heap.size) wi w' → (w'.cell? ⟨g', 0, none⟩ = some (.int .i64 y0.id) ∧ w'.cell? ⟨TB, 0, none⟩ = some (.int .u8 k) ∧ w'.cell? ⟨TB, 1, none⟩ = some (.int .i64 id) ∧ w'.cell? ⟨TB, 2, none⟩ = some (.int .u16 s) ∧ w'.cell? ⟨TB, 3, none⟩ = some (.int .u16 b)) ∧ Below (wi.heap.size) wi w') := fun w' hb => ⟨⟨(HY.out.2.2.1.next hb).get 0 HY.out.2.2.2, (HI.out.2.1.next hb).get 0 rfl, (HI.out.2.1.next hb).get 1 rfl, (HI.out.2.1.next hb).get 2 rfl, (HI.out.2.1.next hb).get 3 rfl⟩, hb⟩
    refine wp_region_noPanic ?_
    refine wp_region_Z [6] (fun w' => (w'.cell? ⟨g', 0, none⟩ = some (.int .i64 y0.id) ∧ w'.cell? ⟨TB, 0, none⟩ = some (.int .u8 k) ∧ w'.cell? ⟨TB, 1, none⟩ = some (.int .i64 id) ∧ w'.cell? ⟨TB, 2, none⟩ = some (.int .u16 s) ∧ w'.cell? ⟨TB, 3, none⟩ = some (.int .u16 b)) ∧ Below (wi.heap.size) wi w') (by kernel_rfl) (KP.out _ (below_of_drew ((Below.refl wi.heap.size wi)))) (fun hH => ?_)
    have hbR := below_of_drew ((Below.refl wi.heap.size wi))
    first | (refine wpAnyZ_takeC (i := 0) (v := undef) rfl ?_ ?_ ?_ ?_ (fun _ _ _ h => h) ?_ ?_ ?_; kernel_rfl; kernel_rfl; kernel_rfl; kernel_rfl; exact Or.inr ⟨by rfl, rfl⟩; exact hH) | (refine wpAnyZ_takeC (i := 0) (v := ?_) rfl ?_ ?_ ?_ ?_ (fun _ _ _ h => h) ?_ ?_ ?_; rotate_left; kernel_rfl; kernel_rfl; kernel_rfl; kernel_rfl; (focus (refine Or.inl ⟨by rfl, ?_⟩; intro w' hSw; (try dsimp only at hSw); go_simp)); exact hH) | (refine wpAnyZ_takeC (i := 0) (v := ?_) rfl ?_ ?_ ?_ ?_ (fun _ _ _ h => h) ?_ ?_ ?_; rotate_left; kernel_rfl; kernel_rfl; kernel_rfl; kernel_rfl; (focus (refine Or.inl ⟨by rfl, ?_⟩; intro w' hSw; (try dsimp only at hSw); go_simp; with_reducible rfl)); exact hH)
    try simp only [Act.put, List.getElem_toArray, List.getElem_cons_succ, List.getElem_cons_zero, List.setIfInBounds_toArray, List.set_cons_zero, List.set_cons_succ]
    first | (refine wpAnyZ_takeC (i := 1) (v := undef) rfl ?_ ?_ ?_ ?_ (fun _ _ _ h => h) ?_ ?_ ?_; kernel_rfl; kernel_rfl; kernel_rfl; kernel_rfl; exact Or.inr ⟨by rfl, rfl⟩; exact hH) | (refine wpAnyZ_takeC (i := 1) (v := ?_) rfl ?_ ?_ ?_ ?_ (fun _ _ _ h => h) ?_ ?_ ?_; rotate_left; kernel_rfl; kernel_rfl; kernel_rfl; kernel_rfl; (focus (refine Or.inl ⟨by rfl, ?_⟩; intro w' hSw; (try dsimp only at hSw); go_simp)); exact hH) | (refine wpAnyZ_takeC (i := 1) (v := ?_) rfl ?_ ?_ ?_ ?_ (fun _ _ _ h => h) ?_ ?_ ?_; rotate_left; kernel_rfl; kernel_rfl; kernel_rfl; kernel_rfl; (focus (refine Or.inl ⟨by rfl, ?_⟩; intro w' hSw; (try dsimp only at hSw); go_simp; with_reducible rfl)); exact hH)
    try simp only [Act.put, List.getElem_toArray, List.getElem_cons_succ, List.getElem_cons_zero, List.setIfInBounds_toArray, List.set_cons_zero, List.set_cons_succ]
    first | (refine wpAnyZ_takeC (i := 2) (v := undef) rfl ?_ ?_ ?_ ?_ (fun _ _ _ h => h) ?_ ?_ ?_; kernel_rfl; kernel_rfl; kernel_rfl; kernel_rfl; exact Or.inr ⟨by rfl, rfl⟩; exact hH) | (refine wpAnyZ_takeC (i := 2) (v := ?_) rfl ?_ ?_ ?_ ?_ (fun _ _ _ h => h) ?_ ?_ ?_; rotate_left; kernel_rfl; kernel_rfl; kernel_rfl; kernel_rfl; (focus (refine Or.inl ⟨by rfl, ?_⟩; intro w' hSw; (try dsimp only at hSw); go_simp)); exact hH) | (refine wpAnyZ_takeC (i := 2) (v := ?_) rfl ?_ ?_ ?_ ?_ (fun _ _ _ h => h) ?_ ?_ ?_; rotate_left; kernel_rfl; kernel_rfl; kernel_rfl; kernel_rfl; (focus (refine Or.inl ⟨by rfl, ?_⟩; intro w' hSw; (try dsimp only at hSw); go_simp; with_reducible rfl)); exact hH)
    try simp only [Act.put, List.getElem_toArray, List.getElem_cons_succ, List.getElem_cons_zero, List.setIfInBounds_toArray, List.set_cons_zero, List.set_cons_succ]
    first | (refine wpAnyZ_takeC (i := 3) (v := undef) rfl ?_ ?_ ?_ ?_ (fun _ _ _ h => h) ?_ ?_ ?_; kernel_rfl; kernel_rfl; kernel_rfl; kernel_rfl; exact Or.inr ⟨by rfl, rfl⟩; exact hH) | (refine wpAnyZ_takeC (i := 3) (v := ?_) rfl ?_ ?_ ?_ ?_ (fun _ _ _ h => h) ?_ ?_ ?_; rotate_left; kernel_rfl; kernel_rfl; kernel_rfl; kernel_rfl; (focus (refine Or.inl ⟨by rfl, ?_⟩; intro w' hSw; (try dsimp only at hSw); go_simp)); exact hH) | (refine wpAnyZ_takeC (i := 3) (v := ?_) rfl ?_ ?_ ?_ ?_ (fun _ _ _ h => h) ?_ ?_ ?_; rotate_left; kernel_rfl; kernel_rfl; kernel_rfl; kernel_rfl; (focus (refine Or.inl ⟨by rfl, ?_⟩; intro w' hSw; (try dsimp only at hSw); go_simp; with_reducible rfl)); exact hH)
    try simp only [Act.put, List.getElem_toArray, List.getElem_cons_succ, List.getElem_cons_zero, List.setIfInBounds_toArray, List.set_cons_zero, List.set_cons_succ]
    first | (refine wpAnyZ_takeC (i := 4) (v := undef) rfl ?_ ?_ ?_ ?_ (fun _ _ _ h => h) ?_ ?_ ?_; kernel_rfl; kernel_rfl; kernel_rfl; kernel_rfl; exact Or.inr ⟨by rfl, rfl⟩; exact hH) | (refine wpAnyZ_takeC (i := 4) (v := ?_) rfl ?_ ?_ ?_ ?_ (fun _ _ _ h => h) ?_ ?_ ?_; rotate_left; kernel_rfl; kernel_rfl; kernel_rfl; kernel_rfl; (focus (refine Or.inl ⟨by rfl, ?_⟩; intro w' hSw; (try dsimp only at hSw); go_simp)); exact hH) | (refine wpAnyZ_takeC (i := 4) (v := ?_) rfl ?_ ?_ ?_ ?_ (fun _ _ _ h => h) ?_ ?_ ?_; rotate_left; kernel_rfl; kernel_rfl; kernel_rfl; kernel_rfl; (focus (refine Or.inl ⟨by rfl, ?_⟩; intro w' hSw; (try dsimp only at hSw); go_simp; with_reducible rfl)); exact hH)
    try simp only [Act.put, List.getElem_toArray, List.getElem_cons_succ, List.getElem_cons_zero, List.setIfInBounds_toArray, List.set_cons_zero, List.set_cons_succ]
    refine wpAnyZ_ready (rs := [5]) (by kernel_rfl) (by simp) ?_
    refine (AllReadyZ.cons rfl (fun K hK => ?_) AllReadyZ.nil)
    go_simp
    with_reducible refine (GR.out _).mono ?_
    rintro e w1 ⟨rfl, hb1'⟩
    have hb1 : Below (wi.heap.size) wi w1 := below_next hH.2 hb1'
    try go_wp2_with fail
    have hH1 := KP.out _ hb1
    refine hK.out _ _ (fun _ => hH1) ?_
    clear hK K hH
    have hH := hH1
    clear hH1
    try simp only [Act.put, List.getElem_toArray, List.getElem_cons_succ, List.getElem_cons_zero, List.setIfInBounds_toArray, List.set_cons_zero, List.set_cons_succ]
    refine wpAnyZ_ready (rs := [6]) (by kernel_rfl) (by simp) ?_
    refine (AllReadyZ.cons rfl (fun K hK => ?_) AllReadyZ.nil)
    go_simp
    with_reducible refine (GA.out _ hb1).mono ?_
    rintro e wj ⟨rfl, hf2, hs2⟩
    have HG := Lib.hid (And.intro hf2 (And.intro hs2 hb1))
    clear hf2 hs2
    refine hK.out _ _ (fun h => absurd (by simp) h) ?_
    clear hK K
    try simp only [Act.put, List.getElem_toArray, List.getElem_cons_succ, List.getElem_cons_zero, List.setIfInBounds_toArray, List.set_cons_zero, List.set_cons_succ]
    refine wpAnyZ_done (by kernel_rfl) ?_ _
    refine NoPanic.normal ?_
    skip
    try clear hH
    have hsj : Spares wi wj := (Spares.of_below HG.out.2.2).trans HG.out.2.1
    have bgj := hsj g' _ cs (by decide) (by decide) (by decide) (by decide) HY.out.2.2.1
    have btj := hsj TB _ _ (by decide) (by decide) (by decide) (by decide) HI.out.2.1
    have HJ := Lib.hid (And.intro bgj btj)
    have HSJ := Lib.hid (HI.out.2.2.2.trans hsj)
    clear hsj bgj btj KP
    go_upto_region 16 with (fail)
    have KQ : Hid (∀ w', Below (wj.heap.size) wj w' → (w'.cell? ⟨g', 0, none⟩ = some (.int .i64 y0.id) ∧ w'.cell? ⟨TB, 0, none⟩ = some (.int .u8 k) ∧ w'.cell? ⟨TB, 1, none⟩ = some (.int .i64 id) ∧ w'.cell? ⟨TB, 2, none⟩ = some (.int .u16 s) ∧ w'.cell? ⟨TB, 3, none⟩ = some (.int .u16 b)) ∧ Below (wj.heap.size) wj w') := fun w' hb => ⟨⟨(HJ.out.1.next hb).get 0 HY.out.2.2.2, (HJ.out.2.next hb).get 0 rfl, (HJ.out.2.next hb).get 1 rfl, (HJ.out.2.next hb).get 2 rfl, (HJ.out.2.next hb).get 3 rfl⟩, hb⟩
    refine wp_region_noPanic ?_
    refine wp_region_held_drew (S := fun w' => (w'.cell? ⟨g', 0, none⟩ = some (.int .i64 y0.id) ∧ w'.cell? ⟨TB, 0, none⟩ = some (.int .u8 k) ∧ w'.cell? ⟨TB, 1, none⟩ = some (.int .i64 id) ∧ w'.cell? ⟨TB, 2, none⟩ = some (.int .u16 s) ∧ w'.cell? ⟨TB, 3, none⟩ = some (.int .u16 b)) ∧ Below (wj.heap.size) wj w') (by kernel_rfl) (KQ.out _ (below_of_drew ((Below.refl wj.heap.size wj)))) (fun hH => ?_)
    have hbR := below_of_drew ((Below.refl wj.heap.size wj))
    first | (refine wpAnyH_take (i := 0) (v := undef) rfl ?_ ?_ ?_ (fun _ _ _ h => h) ?_ ?_ ?_; kernel_rfl; kernel_rfl; kernel_rfl; exact Or.inr ⟨by rfl, rfl⟩; exact hH) | (refine wpAnyH_take (i := 0) (v := ?_) rfl ?_ ?_ ?_ (fun _ _ _ h => h) ?_ ?_ ?_; rotate_left; kernel_rfl; kernel_rfl; kernel_rfl; (focus (refine Or.inl ⟨by rfl, ?_⟩; intro w' hSw; (try dsimp only at hSw); go_simp)); exact hH) | (refine wpAnyH_take (i := 0) (v := ?_) rfl ?_ ?_ ?_ (fun _ _ _ h => h) ?_ ?_ ?_; rotate_left; kernel_rfl; kernel_rfl; kernel_rfl; (focus (refine Or.inl ⟨by rfl, ?_⟩; intro w' hSw; (try dsimp only at hSw); go_simp; with_reducible rfl)); exact hH)
    try simp only [Act.put, List.getElem_toArray, List.getElem_cons_succ, List.getElem_cons_zero, List.setIfInBounds_toArray, List.set_cons_zero, List.set_cons_succ]
    first | (refine wpAnyH_take (i := 1) (v := undef) rfl ?_ ?_ ?_ (fun _ _ _ h => h) ?_ ?_ ?_; kernel_rfl; kernel_rfl; kernel_rfl; exact Or.inr ⟨by rfl, rfl⟩; exact hH) | (refine wpAnyH_take (i := 1) (v := ?_) rfl ?_ ?_ ?_ (fun _ _ _ h => h) ?_ ?_ ?_; rotate_left; kernel_rfl; kernel_rfl; kernel_rfl; (focus (refine Or.inl ⟨by rfl, ?_⟩; intro w' hSw; (try dsimp only at hSw); go_simp)); exact hH) | (refine wpAnyH_take (i := 1) (v := ?_) rfl ?_ ?_ ?_ (fun _ _ _ h => h) ?_ ?_ ?_; rotate_left; kernel_rfl; kernel_rfl; kernel_rfl; (focus (refine Or.inl ⟨by rfl, ?_⟩; intro w' hSw; (try dsimp only at hSw); go_simp; with_reducible rfl)); exact hH)
    try simp only [Act.put, List.getElem_toArray, List.getElem_cons_succ, List.getElem_cons_zero, List.setIfInBounds_toArray, List.set_cons_zero, List.set_cons_succ]
    first | (refine wpAnyH_take (i := 2) (v := undef) rfl ?_ ?_ ?_ (fun _ _ _ h => h) ?_ ?_ ?_; kernel_rfl; kernel_rfl; kernel_rfl; exact Or.inr ⟨by rfl, rfl⟩; exact hH) | (refine wpAnyH_take (i := 2) (v := ?_) rfl ?_ ?_ ?_ (fun _ _ _ h => h) ?_ ?_ ?_; rotate_left; kernel_rfl; kernel_rfl; kernel_rfl; (focus (refine Or.inl ⟨by rfl, ?_⟩; intro w' hSw; (try dsimp only at hSw); go_simp)); exact hH) | (refine wpAnyH_take (i := 2) (v := ?_) rfl ?_ ?_ ?_ (fun _ _ _ h => h) ?_ ?_ ?_; rotate_left; kernel_rfl; kernel_rfl; kernel_rfl; (focus (refine Or.inl ⟨by rfl, ?_⟩; intro w' hSw; (try dsimp only at hSw); go_simp; with_reducible rfl)); exact hH)
    try simp only [Act.put, List.getElem_toArray, List.getElem_cons_succ, List.getElem_cons_zero, List.setIfInBounds_toArray, List.set_cons_zero, List.set_cons_succ]
    first | (refine wpAnyH_take (i := 3) (v := undef) rfl ?_ ?_ ?_ (fun _ _ _ h => h) ?_ ?_ ?_; kernel_rfl; kernel_rfl; kernel_rfl; exact Or.inr ⟨by rfl, rfl⟩; exact hH) | (refine wpAnyH_take (i := 3) (v := ?_) rfl ?_ ?_ ?_ (fun _ _ _ h => h) ?_ ?_ ?_; rotate_left; kernel_rfl; kernel_rfl; kernel_rfl; (focus (refine Or.inl ⟨by rfl, ?_⟩; intro w' hSw; (try dsimp only at hSw); go_simp)); exact hH) | (refine wpAnyH_take (i := 3) (v := ?_) rfl ?_ ?_ ?_ (fun _ _ _ h => h) ?_ ?_ ?_; rotate_left; kernel_rfl; kernel_rfl; kernel_rfl; (focus (refine Or.inl ⟨by rfl, ?_⟩; intro w' hSw; (try dsimp only at hSw); go_simp; with_reducible rfl)); exact hH)
    try simp only [Act.put, List.getElem_toArray, List.getElem_cons_succ, List.getElem_cons_zero, List.setIfInBounds_toArray, List.set_cons_zero, List.set_cons_succ]
    refine wpAnyH_ready (rs := [4]) (by kernel_rfl) (by simp) ?_
    refine (AllReadyH.cons rfl (fun K hK => ?_) AllReadyH.nil)
    go_simp
    with_reducible refine (GR.out _).mono ?_
    rintro e w1 ⟨rfl, hb1'⟩
    have hb1 : Below (wj.heap.size) wj w1 := below_next hH.2 hb1'
    try go_wp2_with fail
    refine hK.out _ _ (KQ.out _ hb1) (fun hH1 => ?_)
    clear hK K hH
    have hH := hH1
    clear hH1
    try simp only [Act.put, List.getElem_toArray, List.getElem_cons_succ, List.getElem_cons_zero, List.setIfInBounds_toArray, List.set_cons_zero, List.set_cons_succ]
    first | (refine wpAnyH_take (i := 5) (v := undef) rfl ?_ ?_ ?_ (fun _ _ _ h => h) ?_ ?_ ?_; kernel_rfl; kernel_rfl; kernel_rfl; exact Or.inr ⟨by rfl, rfl⟩; exact hH) | (refine wpAnyH_take (i := 5) (v := ?_) rfl ?_ ?_ ?_ (fun _ _ _ h => h) ?_ ?_ ?_; rotate_left; kernel_rfl; kernel_rfl; kernel_rfl; (focus (refine Or.inl ⟨by rfl, ?_⟩; intro w' hSw; (try dsimp only at hSw); go_simp)); exact hH) | (refine wpAnyH_take (i := 5) (v := ?_) rfl ?_ ?_ ?_ (fun _ _ _ h => h) ?_ ?_ ?_; rotate_left; kernel_rfl; kernel_rfl; kernel_rfl; (focus (refine Or.inl ⟨by rfl, ?_⟩; intro w' hSw; (try dsimp only at hSw); go_simp; with_reducible rfl)); exact hH)
    try simp only [Act.put, List.getElem_toArray, List.getElem_cons_succ, List.getElem_cons_zero, List.setIfInBounds_toArray, List.set_cons_zero, List.set_cons_succ]
    first | (refine wpAnyH_take (i := 6) (v := undef) rfl ?_ ?_ ?_ (fun _ _ _ h => h) ?_ ?_ ?_; kernel_rfl; kernel_rfl; kernel_rfl; exact Or.inr ⟨by rfl, rfl⟩; exact hH) | (refine wpAnyH_take (i := 6) (v := ?_) rfl ?_ ?_ ?_ (fun _ _ _ h => h) ?_ ?_ ?_; rotate_left; kernel_rfl; kernel_rfl; kernel_rfl; (focus (refine Or.inl ⟨by rfl, ?_⟩; intro w' hSw; (try dsimp only at hSw); go_simp)); exact hH) | (refine wpAnyH_take (i := 6) (v := ?_) rfl ?_ ?_ ?_ (fun _ _ _ h => h) ?_ ?_ ?_; rotate_left; kernel_rfl; kernel_rfl; kernel_rfl; (focus (refine Or.inl ⟨by rfl, ?_⟩; intro w' hSw; (try dsimp only at hSw); go_simp; with_reducible rfl)); exact hH)
    try simp only [Act.put, List.getElem_toArray, List.getElem_cons_succ, List.getElem_cons_zero, List.setIfInBounds_toArray, List.set_cons_zero, List.set_cons_succ]
    refine wpAnyH_done (by kernel_rfl) ?_ _
    refine NoPanic.normal ?_
    clear hH
    have hbG := hb1
    try clear hH
    go_wp2_with fail
    go_returns
    have hfi := HG.out.1.next hbG
    have hok := H1.out.2.1.gain y0.id HGW.out
    have hin := (mem_ups.1 HY.out.2.1).1
    exact ⟨y0.id, gg, S1.gain y0.id gg, rfl, HGB.out.1, HGB.out.2, hfi, hok, H1.out.2.2.1.gain H1.out.2.1 HY.out.2.1 (fnd_of_mem H1.out.1.fam.ids hin) HY.out.1 HGB.out.1 HGB.out.2 HII.out, HSJ.out.trans (Spares.of_below hbG)⟩

end Go.Proofs.YtjhffbhjiflfeaaGreat
