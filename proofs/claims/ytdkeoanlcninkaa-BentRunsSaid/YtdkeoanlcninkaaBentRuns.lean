/-
  The walk of the law BentRuns: whatever copies start, the run has what the document's has.
-/
import Derived.Test.YtdkeoanlcninkaaProg
import Derived.Test.YtdkeoanlcninkaaBentSame
namespace Go.Proofs.Ytdkeoanlcninkaa
set_option linter.unusedVariables false
set_option linter.unusedSimpArgs false
open Go.RowKit Go.Shelf

/-- All four parts of the acts that came in. -/
def Acts4 (w : World) (A : Option Addr) (n : Nat) (X Y T N : Nat → Int) : Prop :=
  ∀ b off, A = some ⟨b, off, none⟩ → ∀ i, i < n → w.cell? ⟨b, off + i * 4, none⟩ = some (.int .u64 (X i)) ∧ w.cell? ⟨b, off + i * 4 + 1, none⟩ = some (.int .u64 (Y i)) ∧ w.cell? ⟨b, off + i * 4 + 2, none⟩ = some (.int .u64 (T i)) ∧ w.cell? ⟨b, off + i * 4 + 3, none⟩ = some (.int .u64 (N i))

set_option maxRecDepth 100000 in
set_option maxHeartbeats 16000000 in
theorem bentRuns_walk (w : World) (F : Int) (hF : (Lit.int .u64 F).wf = true) (L : Int) (hL : (Lit.int .u64 L).wf = true) (R : Int) (hR : (Lit.int .u64 R).wf = true) (A : Option Addr) (n c : Nat) (X : Nat → Int) (fX : ∀ i, i < n → (Lit.int .u64 (X i)).wf = true) (Y : Nat → Int) (fY : ∀ i, i < n → (Lit.int .u64 (Y i)).wf = true) (T : Nat → Int) (fT : ∀ i, i < n → (Lit.int .u64 (T i)).wf = true) (N : Nat → Int) (fN : ∀ i, i < n → (Lit.int .u64 (N i)).wf = true) (hl : n ≤ c) (hm : c ≤ maxLen)
    (hA : 0 < n → ∃ b off, A = some ⟨b, off, none⟩ ∧ b < w.heap.size) (hX : ∀ b off, A = some ⟨b, off, none⟩ → ∀ i, i < n → w.cell? ⟨b, off + (i * 4 + 0), none⟩ = some (.int .u64 (X i))) (hY : ∀ b off, A = some ⟨b, off, none⟩ → ∀ i, i < n → w.cell? ⟨b, off + (i * 4 + 1), none⟩ = some (.int .u64 (Y i)))
    (hT : ∀ b off, A = some ⟨b, off, none⟩ → ∀ i, i < n → w.cell? ⟨b, off + (i * 4 + 2), none⟩ = some (.int .u64 (T i))) (hN : ∀ b off, A = some ⟨b, off, none⟩ → ∀ i, i < n → w.cell? ⟨b, off + (i * 4 + 3), none⟩ = some (.int .u64 (N i))) (at' : Int) (hat : (Lit.int .i64 at').wf = true) :
    Calls Try.prog 6 #[.agg #[.int .u64 F, .int .u64 L, .int .u64 R], .slice A n c, .int .i64 at'] w fun e w' => e = .returned (.bool true) ∧ Below w.heap.size w w' := by
  have wF := word_of_wf hF
  have wL := word_of_wf hL
  have wR := word_of_wf hR
  have hC : Acts4 w A n (cutF X n) (cutF Y n) (cutF T n) (cutF N n) := by
    intro b off h i hi
    rw [cutF_at hi, cutF_at hi, cutF_at hi, cutF_at hi]
    exact ⟨by simpa using hX b off h i hi, by simpa [Nat.add_assoc] using hY b off h i hi, by simpa [Nat.add_assoc] using hT b off h i hi, by simpa [Nat.add_assoc] using hN b off h i hi⟩
  have wX := cutF_word (fun i hi => word_of_wf (fX i hi))
  have wY := cutF_word (fun i hi => word_of_wf (fY i hi))
  have wT := cutF_word (fun i hi => word_of_wf (fT i hi))
  have wN := cutF_word (fun i hi => word_of_wf (fN i hi))
  clear hF hL hR fX fY fT fN hX hY hT hN hl hm hat
  generalize cutF X n = X at hC wX
  generalize cutF Y n = Y at hC wY
  generalize cutF T n = T at hC wT
  generalize cutF N n = N at hC wN
  by_cases hn : 40 < n
  · have hn' : (40 : Int) < (n : Int) := by omega
    clear hn hA hC
    go_enter Try.func6, Try.ntmps6
    go_wp2_with fail
    go_ret
    exact ⟨rfl, by go_grown⟩
  have hn' : decide ((40 : Int) < (n : Int)) = false := decide_eq_false (by omega)
  rcases Bool.eq_false_or_eq_true (mayB F L R && decide (R < F)) with hm | hm
  rotate_left
  · have NB := Lib.hid (fun w => bnew_bad F L R w wF wL wR hm)
    have RB := Lib.hid (fun w => rnew_bad F L R w wL hm)
    clear hm hA hC hn
    go_enter Try.func6, Try.ntmps6
    go_wp2_with fail
    with_reducible refine (NB.out _).mono ?_
    rintro e w1 ⟨rfl, hb1⟩
    have Cm : Blk w1 (w.heap.size) 24 #[.int .u64 F, .int .u64 L, .int .u64 R] := Blk.next (by repeat (first | (refine Blk.new_at ?_; simp only [World.size_alloc]; done) | (with_reducible refine Blk.alloc ?_ _) | (with_reducible refine Blk.drewN ?_ _))) hb1
    have Cb := Cm
    clear Cm
    have Cc0 : World.cell? w1 ⟨w.heap.size, 0, none⟩ = some (.int .u64 F) := Cb.get 0 rfl
    have Cf0 := Blk.frozen Cb 0
    have Cc1 : World.cell? w1 ⟨w.heap.size, 1, none⟩ = some (.int .u64 L) := Cb.get 1 rfl
    have Cf1 := Blk.frozen Cb 1
    have Cc2 : World.cell? w1 ⟨w.heap.size, 2, none⟩ = some (.int .u64 R) := Cb.get 2 rfl
    have Cf2 := Blk.frozen Cb 2
    have Cn := Blk.lt Cb
    have B1 : Below w.heap.size w w1 := by first | with_reducible exact hb1 | exact Below.trans (by go_grown) (hb1.mono (by simp only [World.size_alloc]; omega))
    clear hb1
    go_wp2_with fail
    with_reducible refine (RB.out _).mono ?_
    rintro e w2 ⟨rfl, hb2⟩
    have Cm : Blk w2 (w.heap.size) 24 #[.int .u64 F, .int .u64 L, .int .u64 R] := Blk.next (by repeat (first | (with_reducible exact Cb) | (refine Blk.new_at ?_; simp only [World.size_alloc]; done) | (with_reducible refine Blk.alloc ?_ _) | (with_reducible refine Blk.drewN ?_ _))) hb2
    clear Cn Cb Cc0 Cf0 Cc1 Cf1 Cc2 Cf2
    have Cb := Cm
    clear Cm
    have Cc0 : World.cell? w2 ⟨w.heap.size, 0, none⟩ = some (.int .u64 F) := Cb.get 0 rfl
    have Cf0 := Blk.frozen Cb 0
    have Cc1 : World.cell? w2 ⟨w.heap.size, 1, none⟩ = some (.int .u64 L) := Cb.get 1 rfl
    have Cf1 := Blk.frozen Cb 1
    have Cc2 : World.cell? w2 ⟨w.heap.size, 2, none⟩ = some (.int .u64 R) := Cb.get 2 rfl
    have Cf2 := Blk.frozen Cb 2
    have Cn := Blk.lt Cb
    have B2 : Below w.heap.size w w2 := by first | with_reducible exact below_next B1 hb2 | exact below_step B1 (by go_grown) hb2
    clear hb2 B1
    go_wp2_with fail
    go_ret
    exact ⟨by simp, B2⟩
  obtain ⟨hm1, hm2⟩ : mayB F L R = true ∧ R < F := by simpa using hm
  clear hm
  have my := may_of wF wL wR hm1
  have NW := Lib.hid (fun w => bnew_made F L R w wF wL wR hm1 hm2)
  have RN := Lib.hid (fun w => rnew_made F L R (fun j => runX X (j + 1)) (fun j => capN (Y j)) w wL hm1 hm2)
  have MR := Lib.hid (fun i : Nat => made_run my hm2 (fun j => (wY j).1) i (X := X))
  have SA := Lib.hid (fun p q i aX aY w (hi : i ≤ 40) hB hC => same_run p q F L R i X Y aX aY (T := T i) (N := N i) w hm1 hm2 wF wL wR wX wY (by omega) (wT i) (wN i) hB hC)
  have SB := Lib.hid (fun p q i aX aY w (hi : i + 1 ≤ 40) hB hC => same_run p q F L R (i + 1) X Y aX aY (T := T i) (N := N i) w hm1 hm2 wF wL wR wX wY (by omega) (wT i) (wN i) hB hC)
  have WX := Lib.hid wX
  have WY := Lib.hid wY
  have HA := Lib.hid hA
  have HC := Lib.hid hC
  have HMY := Lib.hid my
  have HN : n ≤ 40 := by omega
  clear hm1 hA hC hn wX wY wT wN my
  go_enter Try.func6, Try.ntmps6
  go_wp2_with fail
  with_reducible refine (NW.out _).mono ?_
  rintro e w1 ⟨p, rfl, hp, hq, hb1⟩
  have Cm : Blk w1 (w.heap.size) 24 #[.int .u64 F, .int .u64 L, .int .u64 R] := Blk.next (by repeat (first | (refine Blk.new_at ?_; simp only [World.size_alloc]; done) | (with_reducible refine Blk.alloc ?_ _) | (with_reducible refine Blk.drewN ?_ _))) hb1
  have Cb := Cm
  clear Cm
  have Cc0 : World.cell? w1 ⟨w.heap.size, 0, none⟩ = some (.int .u64 F) := Cb.get 0 rfl
  have Cf0 := Blk.frozen Cb 0
  have Cc1 : World.cell? w1 ⟨w.heap.size, 1, none⟩ = some (.int .u64 L) := Cb.get 1 rfl
  have Cf1 := Blk.frozen Cb 1
  have Cc2 : World.cell? w1 ⟨w.heap.size, 2, none⟩ = some (.int .u64 R) := Cb.get 2 rfl
  have Cf2 := Blk.frozen Cb 2
  have Cn := Blk.lt Cb
  have B1 : Below w.heap.size w w1 := by first | with_reducible exact hb1 | exact Below.trans (by go_grown) (hb1.mono (by simp only [World.size_alloc]; omega))
  clear hb1
  have HQ := Lib.hid hq
  have zp := HQ.out.lt
  have zp1 : w.heap.size ≤ p := by first | exact hp | (simp only [World.size_alloc] at hp; omega)
  clear hq hp
  go_wp2_with fail
  with_reducible refine (RN.out _).mono ?_
  rintro e w2 ⟨q, rfl, hq, hc, hb2⟩
  have Cm : Blk w2 (w.heap.size) 24 #[.int .u64 F, .int .u64 L, .int .u64 R] := Blk.next (by repeat (first | (with_reducible exact Cb) | (refine Blk.new_at ?_; simp only [World.size_alloc]; done) | (with_reducible refine Blk.alloc ?_ _) | (with_reducible refine Blk.drewN ?_ _))) hb2
  clear Cn Cb Cc0 Cf0 Cc1 Cf1 Cc2 Cf2
  have Cb := Cm
  clear Cm
  have Cc0 : World.cell? w2 ⟨w.heap.size, 0, none⟩ = some (.int .u64 F) := Cb.get 0 rfl
  have Cf0 := Blk.frozen Cb 0
  have Cc1 : World.cell? w2 ⟨w.heap.size, 1, none⟩ = some (.int .u64 L) := Cb.get 1 rfl
  have Cf1 := Blk.frozen Cb 1
  have Cc2 : World.cell? w2 ⟨w.heap.size, 2, none⟩ = some (.int .u64 R) := Cb.get 2 rfl
  have Cf2 := Blk.frozen Cb 2
  have Cn := Blk.lt Cb
  replace HQ := Lib.hid (HQ.out.next hb2)
  have B2 : Below w.heap.size w w2 := by first | with_reducible exact below_next B1 hb2 | exact below_step B1 (by go_grown) hb2
  clear hb2 B1
  have HI := Lib.hid hc
  have zq : p < q := by omega
  have HB := Lib.hid B2
  clear hc hq zp Cb Cc0 Cc1 Cc2 Cf0 Cf1 Cf2 Cn B2 NW RN
  go_wp2_with fail
  go_loopg [11] n (fun gk ix wr => ∃ i : Nat, i + gk = n ∧ ix = .int .i64 i ∧ IsBent wr p F L R i (runX X i) (runH X Y F 0 i) (runH X Y R ((F - R) * L) i) ∧ IsCop wr q F L R i (fun j => runX X (j + 1)) (fun j => capN (Y j)) ∧ Below w.heap.size w wr)
  case atStart => exact ⟨0, by omega, rfl, HQ.out, HI.out, HB.out⟩
  case round =>
    obtain ⟨i, hi, rfl, Qb, Ib, B0⟩ := hrel
    clear HQ HI HB
    have HQ := Lib.hid Qb
    have HI := Lib.hid Ib
    have HB := Lib.hid B0
    clear Qb Ib B0
    obtain ⟨go, rfl⟩ : ∃ x : Nat, x = gk := ⟨_, rfl⟩
    obtain ⟨wo, rfl⟩ : ∃ x : World, x = wr := ⟨_, rfl⟩
    by_cases hlt : i < n
    · obtain ⟨gm, rfl⟩ : ∃ gm, go = gm + 1 := ⟨go - 1, by omega⟩
      obtain ⟨bA, off, rfl, hbA⟩ := HA.out (by omega)
      obtain ⟨cx0, cy0, ct0, cn0⟩ := HC.out _ _ rfl i hlt
      have HC4 := Lib.hid (And.intro cx0 (And.intro cy0 (And.intro ct0 cn0)))
      have i0 : (0 : Int) ≤ (i : Int) := by omega
      have i1 : (i : Int) < (n : Int) := by omega
      have nn : (n : Int) ≤ 40 := by omega
      clear cx0 cy0 ct0 cn0
      go_upto_if 59 with (fail)
      go_cut [] (fun wc => Below wo.heap.size wo wc)
      case first =>
        by_cases hat : (i : Int) = at'
        · have e1 : ((i : Int) == at') = true := beq_iff_eq.2 hat
          have CP := Lib.hid (bcopy_made p F L R i (runX X i) (runH X Y F 0 i) (runH X Y R ((F - R) * L) i) wo HQ.out)
          have ct := (HB.out.cell (p := ⟨bA, off + i * 4, none⟩) hbA).trans HC4.out.1
          have ct1 := (HB.out.cell (p := ⟨bA, off + i * 4 + 1, none⟩) hbA).trans HC4.out.2.1
          have ct2 := (HB.out.cell (p := ⟨bA, off + i * 4 + 2, none⟩) hbA).trans HC4.out.2.2.1
          have ct3 := (HB.out.cell (p := ⟨bA, off + i * 4 + 3, none⟩) hbA).trans HC4.out.2.2.2
          have HT := Lib.hid (And.intro ct (And.intro ct1 (And.intro ct2 ct3)))
          clear hat ct ct1 ct2 ct3
          go_wp2_with fail
          with_reducible refine (CP.out).mono ?_
          rintro e w11 ⟨p2, rfl, hp2, hq2, hb11⟩
          have H2 := Lib.hid hq2
          have hbo : bA < wo.heap.size := Nat.lt_of_lt_of_le hbA HB.out.size
          have ct : World.cell? w11 ⟨bA, off + i * 4, none⟩ = some (.int .u64 (X i)) := (hb11.cell (p := ⟨bA, off + i * 4, none⟩) hbo).trans HT.out.1
          have ct1 : World.cell? w11 ⟨bA, off + i * 4 + 1, none⟩ = some (.int .u64 (Y i)) := (hb11.cell (p := ⟨bA, off + i * 4 + 1, none⟩) hbo).trans HT.out.2.1
          have ct2 : World.cell? w11 ⟨bA, off + i * 4 + 2, none⟩ = some (.int .u64 (T i)) := (hb11.cell (p := ⟨bA, off + i * 4 + 2, none⟩) hbo).trans HT.out.2.2.1
          have ct3 : World.cell? w11 ⟨bA, off + i * 4 + 3, none⟩ = some (.int .u64 (N i)) := (hb11.cell (p := ⟨bA, off + i * 4 + 3, none⟩) hbo).trans HT.out.2.2.2
          have HI2 := Lib.hid (HI.out.next hb11)
          have HB11 := Lib.hid hb11
          clear hq2 hb11 HT
          go_wp2_with fail
          with_reducible refine (SA.out p2 q i _ _ _ (by omega) H2.out HI2.out).mono ?_
          rintro e w12 ⟨rfl, hb12⟩
          replace H2 := Lib.hid (H2.out.next hb12)
          have HB12 := Lib.hid (below_next HB11.out hb12)
          have zz : Hid (wo.heap.size ≤ p2) := hp2
          clear HB11 hb12 ct ct1 ct2 ct3 HI2 CP hp2
          go_wp2_with fail
          go_loopg [13] (n - i) (fun gk ix wr => ∃ (k : Nat) (xx ff rr : Int), i ≤ k ∧ k + gk = n ∧ ix = .int .i64 k ∧ Made F L R k xx ff rr ∧ IsBent wr p2 F L R k xx ff rr ∧ Below wo.heap.size wo wr)
          case atStart => exact ⟨i, _, _, _, Nat.le_refl _, by omega, rfl, MR.out i, H2.out, HB12.out⟩
          case round =>
            obtain ⟨k, xx, ff, rr, hik, hk, rfl, hM, Qb, B0⟩ := hrel
            clear H2 HB12
            have H2 := Lib.hid Qb
            have HBo := Lib.hid B0
            have HM := Lib.hid hM
            clear Qb B0 hM
            by_cases hkl : k < n
            · obtain ⟨gm2, rfl⟩ : ∃ gm, gk = gm + 1 := ⟨gk - 1, by omega⟩
              obtain ⟨cx, cy, -, -⟩ := HC.out _ _ rfl k hkl
              have ST := Lib.hid (fun w h => bstart_made p2 F L R k xx ff rr (Y k) (X k) w h HM.out (by omega) (WY.out k) (WX.out k))
              have HN2 := Lib.hid (HM.out.next (X := Y k) (Y := X k) (WX.out k).1)
              have k0 : (0 : Int) ≤ (k : Int) := by omega
              have k1 : (k : Int) < (n : Int) := by omega
              have hbo : bA < wo.heap.size := Nat.lt_of_lt_of_le hbA HB.out.size
              have K5 : Hid (∀ w', Below (wo.heap.size) wo w' → (w'.cell? ⟨bA, off + k * 4, none⟩ = some (.int .u64 (X k)) ∧ w'.cell? ⟨bA, off + k * 4 + 1, none⟩ = some (.int .u64 (Y k))) ∧ Below (wo.heap.size) wo w') := fun w' hb => ⟨⟨((hb.cell (p := ⟨bA, off + k * 4, none⟩) hbo).trans ((HB.out.cell (p := ⟨bA, off + k * 4, none⟩) hbA).trans cx)), ((hb.cell (p := ⟨bA, off + k * 4 + 1, none⟩) hbo).trans ((HB.out.cell (p := ⟨bA, off + k * 4 + 1, none⟩) hbA).trans cy))⟩, hb⟩
              clear cx cy hkl
              go_wp2_with fail
              refine wp_region_noPanic ?_
              refine wp_region_held_drew (S := fun w' => (w'.cell? ⟨bA, off + k * 4, none⟩ = some (.int .u64 (X k)) ∧ w'.cell? ⟨bA, off + k * 4 + 1, none⟩ = some (.int .u64 (Y k))) ∧ Below (wo.heap.size) wo w') (by kernel_rfl) (K5.out _ (below_of_drew (HBo.out))) (fun hH => ?_)
              first | (refine wpAnyH_take (i := 0) (v := undef) rfl ?_ ?_ ?_ (fun _ _ _ h => h) ?_ ?_ ?_; kernel_rfl; kernel_rfl; kernel_rfl; exact Or.inr ⟨by rfl, rfl⟩; exact hH) | (refine wpAnyH_take (i := 0) (v := ?_) rfl ?_ ?_ ?_ (fun _ _ _ h => h) ?_ ?_ ?_; rotate_left; kernel_rfl; kernel_rfl; kernel_rfl; (focus (refine Or.inl ⟨by rfl, ?_⟩; intro w' hSw; (try dsimp only at hSw); go_simp)); exact hH) | (refine wpAnyH_take (i := 0) (v := ?_) rfl ?_ ?_ ?_ (fun _ _ _ h => h) ?_ ?_ ?_; rotate_left; kernel_rfl; kernel_rfl; kernel_rfl; (focus (refine Or.inl ⟨by rfl, ?_⟩; intro w' hSw; (try dsimp only at hSw); go_simp; with_reducible rfl)); exact hH)
              try simp only [Act.put, List.getElem_toArray, List.getElem_cons_succ, List.getElem_cons_zero, List.setIfInBounds_toArray, List.set_cons_zero, List.set_cons_succ]
              first | (refine wpAnyH_take (i := 1) (v := undef) rfl ?_ ?_ ?_ (fun _ _ _ h => h) ?_ ?_ ?_; kernel_rfl; kernel_rfl; kernel_rfl; exact Or.inr ⟨by rfl, rfl⟩; exact hH) | (refine wpAnyH_take (i := 1) (v := ?_) rfl ?_ ?_ ?_ (fun _ _ _ h => h) ?_ ?_ ?_; rotate_left; kernel_rfl; kernel_rfl; kernel_rfl; (focus (refine Or.inl ⟨by rfl, ?_⟩; intro w' hSw; (try dsimp only at hSw); go_simp)); exact hH) | (refine wpAnyH_take (i := 1) (v := ?_) rfl ?_ ?_ ?_ (fun _ _ _ h => h) ?_ ?_ ?_; rotate_left; kernel_rfl; kernel_rfl; kernel_rfl; (focus (refine Or.inl ⟨by rfl, ?_⟩; intro w' hSw; (try dsimp only at hSw); go_simp; with_reducible rfl)); exact hH)
              try simp only [Act.put, List.getElem_toArray, List.getElem_cons_succ, List.getElem_cons_zero, List.setIfInBounds_toArray, List.set_cons_zero, List.set_cons_succ]
              first | (refine wpAnyH_take (i := 2) (v := undef) rfl ?_ ?_ ?_ (fun _ _ _ h => h) ?_ ?_ ?_; kernel_rfl; kernel_rfl; kernel_rfl; exact Or.inr ⟨by rfl, rfl⟩; exact hH) | (refine wpAnyH_take (i := 2) (v := ?_) rfl ?_ ?_ ?_ (fun _ _ _ h => h) ?_ ?_ ?_; rotate_left; kernel_rfl; kernel_rfl; kernel_rfl; (focus (refine Or.inl ⟨by rfl, ?_⟩; intro w' hSw; (try dsimp only at hSw); go_simp)); exact hH) | (refine wpAnyH_take (i := 2) (v := ?_) rfl ?_ ?_ ?_ (fun _ _ _ h => h) ?_ ?_ ?_; rotate_left; kernel_rfl; kernel_rfl; kernel_rfl; (focus (refine Or.inl ⟨by rfl, ?_⟩; intro w' hSw; (try dsimp only at hSw); go_simp; with_reducible rfl)); exact hH)
              try simp only [Act.put, List.getElem_toArray, List.getElem_cons_succ, List.getElem_cons_zero, List.setIfInBounds_toArray, List.set_cons_zero, List.set_cons_succ]
              first | (refine wpAnyH_take (i := 3) (v := undef) rfl ?_ ?_ ?_ (fun _ _ _ h => h) ?_ ?_ ?_; kernel_rfl; kernel_rfl; kernel_rfl; exact Or.inr ⟨by rfl, rfl⟩; exact hH) | (refine wpAnyH_take (i := 3) (v := ?_) rfl ?_ ?_ ?_ (fun _ _ _ h => h) ?_ ?_ ?_; rotate_left; kernel_rfl; kernel_rfl; kernel_rfl; (focus (refine Or.inl ⟨by rfl, ?_⟩; intro w' hSw; (try dsimp only at hSw); go_simp)); exact hH) | (refine wpAnyH_take (i := 3) (v := ?_) rfl ?_ ?_ ?_ (fun _ _ _ h => h) ?_ ?_ ?_; rotate_left; kernel_rfl; kernel_rfl; kernel_rfl; (focus (refine Or.inl ⟨by rfl, ?_⟩; intro w' hSw; (try dsimp only at hSw); go_simp; with_reducible rfl)); exact hH)
              try simp only [Act.put, List.getElem_toArray, List.getElem_cons_succ, List.getElem_cons_zero, List.setIfInBounds_toArray, List.set_cons_zero, List.set_cons_succ]
              first | (refine wpAnyH_take (i := 4) (v := undef) rfl ?_ ?_ ?_ (fun _ _ _ h => h) ?_ ?_ ?_; kernel_rfl; kernel_rfl; kernel_rfl; exact Or.inr ⟨by rfl, rfl⟩; exact hH) | (refine wpAnyH_take (i := 4) (v := ?_) rfl ?_ ?_ ?_ (fun _ _ _ h => h) ?_ ?_ ?_; rotate_left; kernel_rfl; kernel_rfl; kernel_rfl; (focus (refine Or.inl ⟨by rfl, ?_⟩; intro w' hSw; (try dsimp only at hSw); go_simp)); exact hH) | (refine wpAnyH_take (i := 4) (v := ?_) rfl ?_ ?_ ?_ (fun _ _ _ h => h) ?_ ?_ ?_; rotate_left; kernel_rfl; kernel_rfl; kernel_rfl; (focus (refine Or.inl ⟨by rfl, ?_⟩; intro w' hSw; (try dsimp only at hSw); go_simp; with_reducible rfl)); exact hH)
              try simp only [Act.put, List.getElem_toArray, List.getElem_cons_succ, List.getElem_cons_zero, List.setIfInBounds_toArray, List.set_cons_zero, List.set_cons_succ]
              first | (refine wpAnyH_take (i := 5) (v := undef) rfl ?_ ?_ ?_ (fun _ _ _ h => h) ?_ ?_ ?_; kernel_rfl; kernel_rfl; kernel_rfl; exact Or.inr ⟨by rfl, rfl⟩; exact hH) | (refine wpAnyH_take (i := 5) (v := ?_) rfl ?_ ?_ ?_ (fun _ _ _ h => h) ?_ ?_ ?_; rotate_left; kernel_rfl; kernel_rfl; kernel_rfl; (focus (refine Or.inl ⟨by rfl, ?_⟩; intro w' hSw; (try dsimp only at hSw); go_simp)); exact hH) | (refine wpAnyH_take (i := 5) (v := ?_) rfl ?_ ?_ ?_ (fun _ _ _ h => h) ?_ ?_ ?_; rotate_left; kernel_rfl; kernel_rfl; kernel_rfl; (focus (refine Or.inl ⟨by rfl, ?_⟩; intro w' hSw; (try dsimp only at hSw); go_simp; with_reducible rfl)); exact hH)
              try simp only [Act.put, List.getElem_toArray, List.getElem_cons_succ, List.getElem_cons_zero, List.setIfInBounds_toArray, List.set_cons_zero, List.set_cons_succ]
              first | (refine wpAnyH_take (i := 6) (v := undef) rfl ?_ ?_ ?_ (fun _ _ _ h => h) ?_ ?_ ?_; kernel_rfl; kernel_rfl; kernel_rfl; exact Or.inr ⟨by rfl, rfl⟩; exact hH) | (refine wpAnyH_take (i := 6) (v := ?_) rfl ?_ ?_ ?_ (fun _ _ _ h => h) ?_ ?_ ?_; rotate_left; kernel_rfl; kernel_rfl; kernel_rfl; (focus (refine Or.inl ⟨by rfl, ?_⟩; intro w' hSw; (try dsimp only at hSw); go_simp)); exact hH) | (refine wpAnyH_take (i := 6) (v := ?_) rfl ?_ ?_ ?_ (fun _ _ _ h => h) ?_ ?_ ?_; rotate_left; kernel_rfl; kernel_rfl; kernel_rfl; (focus (refine Or.inl ⟨by rfl, ?_⟩; intro w' hSw; (try dsimp only at hSw); go_simp; with_reducible rfl)); exact hH)
              try simp only [Act.put, List.getElem_toArray, List.getElem_cons_succ, List.getElem_cons_zero, List.setIfInBounds_toArray, List.set_cons_zero, List.set_cons_succ]
              first | (refine wpAnyH_take (i := 7) (v := undef) rfl ?_ ?_ ?_ (fun _ _ _ h => h) ?_ ?_ ?_; kernel_rfl; kernel_rfl; kernel_rfl; exact Or.inr ⟨by rfl, rfl⟩; exact hH) | (refine wpAnyH_take (i := 7) (v := ?_) rfl ?_ ?_ ?_ (fun _ _ _ h => h) ?_ ?_ ?_; rotate_left; kernel_rfl; kernel_rfl; kernel_rfl; (focus (refine Or.inl ⟨by rfl, ?_⟩; intro w' hSw; (try dsimp only at hSw); go_simp)); exact hH) | (refine wpAnyH_take (i := 7) (v := ?_) rfl ?_ ?_ ?_ (fun _ _ _ h => h) ?_ ?_ ?_; rotate_left; kernel_rfl; kernel_rfl; kernel_rfl; (focus (refine Or.inl ⟨by rfl, ?_⟩; intro w' hSw; (try dsimp only at hSw); go_simp; with_reducible rfl)); exact hH)
              try simp only [Act.put, List.getElem_toArray, List.getElem_cons_succ, List.getElem_cons_zero, List.setIfInBounds_toArray, List.set_cons_zero, List.set_cons_succ]
              first | (refine wpAnyH_take (i := 8) (v := undef) rfl ?_ ?_ ?_ (fun _ _ _ h => h) ?_ ?_ ?_; kernel_rfl; kernel_rfl; kernel_rfl; exact Or.inr ⟨by rfl, rfl⟩; exact hH) | (refine wpAnyH_take (i := 8) (v := ?_) rfl ?_ ?_ ?_ (fun _ _ _ h => h) ?_ ?_ ?_; rotate_left; kernel_rfl; kernel_rfl; kernel_rfl; (focus (refine Or.inl ⟨by rfl, ?_⟩; intro w' hSw; (try dsimp only at hSw); go_simp)); exact hH) | (refine wpAnyH_take (i := 8) (v := ?_) rfl ?_ ?_ ?_ (fun _ _ _ h => h) ?_ ?_ ?_; rotate_left; kernel_rfl; kernel_rfl; kernel_rfl; (focus (refine Or.inl ⟨by rfl, ?_⟩; intro w' hSw; (try dsimp only at hSw); go_simp; with_reducible rfl)); exact hH)
              try simp only [Act.put, List.getElem_toArray, List.getElem_cons_succ, List.getElem_cons_zero, List.setIfInBounds_toArray, List.set_cons_zero, List.set_cons_succ]
              first | (refine wpAnyH_take (i := 9) (v := undef) rfl ?_ ?_ ?_ (fun _ _ _ h => h) ?_ ?_ ?_; kernel_rfl; kernel_rfl; kernel_rfl; exact Or.inr ⟨by rfl, rfl⟩; exact hH) | (refine wpAnyH_take (i := 9) (v := ?_) rfl ?_ ?_ ?_ (fun _ _ _ h => h) ?_ ?_ ?_; rotate_left; kernel_rfl; kernel_rfl; kernel_rfl; (focus (refine Or.inl ⟨by rfl, ?_⟩; intro w' hSw; (try dsimp only at hSw); go_simp)); exact hH) | (refine wpAnyH_take (i := 9) (v := ?_) rfl ?_ ?_ ?_ (fun _ _ _ h => h) ?_ ?_ ?_; rotate_left; kernel_rfl; kernel_rfl; kernel_rfl; (focus (refine Or.inl ⟨by rfl, ?_⟩; intro w' hSw; (try dsimp only at hSw); go_simp; with_reducible rfl)); exact hH)
              try simp only [Act.put, List.getElem_toArray, List.getElem_cons_succ, List.getElem_cons_zero, List.setIfInBounds_toArray, List.set_cons_zero, List.set_cons_succ]
              first | (refine wpAnyH_take (i := 10) (v := undef) rfl ?_ ?_ ?_ (fun _ _ _ h => h) ?_ ?_ ?_; kernel_rfl; kernel_rfl; kernel_rfl; exact Or.inr ⟨by rfl, rfl⟩; exact hH) | (refine wpAnyH_take (i := 10) (v := ?_) rfl ?_ ?_ ?_ (fun _ _ _ h => h) ?_ ?_ ?_; rotate_left; kernel_rfl; kernel_rfl; kernel_rfl; (focus (refine Or.inl ⟨by rfl, ?_⟩; intro w' hSw; (try dsimp only at hSw); go_simp)); exact hH) | (refine wpAnyH_take (i := 10) (v := ?_) rfl ?_ ?_ ?_ (fun _ _ _ h => h) ?_ ?_ ?_; rotate_left; kernel_rfl; kernel_rfl; kernel_rfl; (focus (refine Or.inl ⟨by rfl, ?_⟩; intro w' hSw; (try dsimp only at hSw); go_simp; with_reducible rfl)); exact hH)
              try simp only [Act.put, List.getElem_toArray, List.getElem_cons_succ, List.getElem_cons_zero, List.setIfInBounds_toArray, List.set_cons_zero, List.set_cons_succ]
              refine wpAnyH_ready (rs := [11]) (by kernel_rfl) (by simp) ?_
              refine AllReadyH.cons rfl (fun K hK => ?_) AllReadyH.nil
              go_simp
              with_reducible refine (ST.out _ (H2.out.next (below_of_drew (Below.refl _ _)))).mono ?_
              rintro e w21 ⟨rfl, hq2, hf2⟩
              have hb21 : Below wo.heap.size wo w21 := (HBo.out.drew.trans (hf2.below (B := wo.heap.size) (by simpa using HBo.out.size) (fun k hk e => by have := zz.out; omega)))
              try go_wp2_with fail
              refine hK.out _ _ (K5.out _ hb21) (fun hH21 => ?_)
              clear hK K hH
              have hH := hH21
              clear hH21
              try simp only [Act.put, List.getElem_toArray, List.getElem_cons_succ, List.getElem_cons_zero, List.setIfInBounds_toArray, List.set_cons_zero, List.set_cons_succ]
              refine wpAnyH_done (by kernel_rfl) ?_ _
              refine NoPanic.normal ?_
              clear hH
              go_wp2_with fail
              go_roundg gm2
              case rel => exact ⟨k + 1, _, _, _, by omega, by omega, by go_num, HN2.out, hq2, hb21⟩
              case measure => omega
            · obtain rfl : gk = 0 := by omega
              obtain rfl : k = n := by omega
              go_wp2_with fail
              go_meet
              exact HBo.out
        · have e1 : ((i : Int) == at') = false := beq_eq_false_iff_ne.2 hat
          clear hat
          go_wp2_with fail
          go_meet
          exact Below.refl _ _
      case rest =>
        have B1 := hcut
        obtain ⟨wp, rfl⟩ : ∃ x : World, x = wc := ⟨_, rfl⟩
        have HQ1 := Lib.hid (HQ.out.next B1)
        have HI1 := Lib.hid (HI.out.next B1)
        have HB1 := Lib.hid (below_next HB.out B1)
        have ct := (HB1.out.cell (p := ⟨bA, off + i * 4, none⟩) hbA).trans HC4.out.1
        have ct1 := (HB1.out.cell (p := ⟨bA, off + i * 4 + 1, none⟩) hbA).trans HC4.out.2.1
        have ct2 := (HB1.out.cell (p := ⟨bA, off + i * 4 + 2, none⟩) hbA).trans HC4.out.2.2.1
        have ct3 := (HB1.out.cell (p := ⟨bA, off + i * 4 + 3, none⟩) hbA).trans HC4.out.2.2.2
        clear HQ HI HB B1 hcut
        go_wp2_with fail
        with_reducible refine (SA.out p q i _ _ _ (by omega) HQ1.out HI1.out).mono ?_
        rintro e w12 ⟨rfl, hb12⟩
        have HQ2 := Lib.hid (HQ1.out.next hb12)
        have HI2 := Lib.hid (HI1.out.next hb12)
        have HB2 := Lib.hid (below_next HB1.out hb12)
        clear HQ1 HI1 HB1 hb12 ct ct1 ct2 ct3
        have ST := Lib.hid (fun w h => bstart_made p F L R i (runX X i) (runH X Y F 0 i) (runH X Y R ((F - R) * L) i) (X i) (Y i) w h (MR.out i) (by omega) (WX.out i) (WY.out i))
        have RS := Lib.hid (fun w h => rstart_any q F L R i (fun j => runX X (j + 1)) (fun j => capN (Y j)) (X i) (Y i) (runX X i) w h (by omega) (WX.out i) (WY.out i) (lastOf_run X i) rfl rfl)
        have K5 : Hid (∀ w', Below (w.heap.size) w w' → (w'.cell? ⟨bA, off + i * 4, none⟩ = some (.int .u64 (X i)) ∧ w'.cell? ⟨bA, off + i * 4 + 1, none⟩ = some (.int .u64 (Y i))) ∧ Below (w.heap.size) w w') := fun w' hb => ⟨⟨((hb.cell (p := ⟨bA, off + i * 4, none⟩) hbA).trans HC4.out.1), ((hb.cell (p := ⟨bA, off + i * 4 + 1, none⟩) hbA).trans HC4.out.2.1)⟩, hb⟩
        go_wp2_with fail
        refine wp_region_noPanic ?_
        refine wp_region_held_drew (S := fun w' => (w'.cell? ⟨bA, off + i * 4, none⟩ = some (.int .u64 (X i)) ∧ w'.cell? ⟨bA, off + i * 4 + 1, none⟩ = some (.int .u64 (Y i))) ∧ Below (w.heap.size) w w') (by kernel_rfl) (K5.out _ (below_of_drew (HB2.out))) (fun hH => ?_)
        first | (refine wpAnyH_take (i := 0) (v := undef) rfl ?_ ?_ ?_ (fun _ _ _ h => h) ?_ ?_ ?_; kernel_rfl; kernel_rfl; kernel_rfl; exact Or.inr ⟨by rfl, rfl⟩; exact hH) | (refine wpAnyH_take (i := 0) (v := ?_) rfl ?_ ?_ ?_ (fun _ _ _ h => h) ?_ ?_ ?_; rotate_left; kernel_rfl; kernel_rfl; kernel_rfl; (focus (refine Or.inl ⟨by rfl, ?_⟩; intro w' hSw; (try dsimp only at hSw); go_simp)); exact hH) | (refine wpAnyH_take (i := 0) (v := ?_) rfl ?_ ?_ ?_ (fun _ _ _ h => h) ?_ ?_ ?_; rotate_left; kernel_rfl; kernel_rfl; kernel_rfl; (focus (refine Or.inl ⟨by rfl, ?_⟩; intro w' hSw; (try dsimp only at hSw); go_simp; with_reducible rfl)); exact hH)
        try simp only [Act.put, List.getElem_toArray, List.getElem_cons_succ, List.getElem_cons_zero, List.setIfInBounds_toArray, List.set_cons_zero, List.set_cons_succ]
        first | (refine wpAnyH_take (i := 1) (v := undef) rfl ?_ ?_ ?_ (fun _ _ _ h => h) ?_ ?_ ?_; kernel_rfl; kernel_rfl; kernel_rfl; exact Or.inr ⟨by rfl, rfl⟩; exact hH) | (refine wpAnyH_take (i := 1) (v := ?_) rfl ?_ ?_ ?_ (fun _ _ _ h => h) ?_ ?_ ?_; rotate_left; kernel_rfl; kernel_rfl; kernel_rfl; (focus (refine Or.inl ⟨by rfl, ?_⟩; intro w' hSw; (try dsimp only at hSw); go_simp)); exact hH) | (refine wpAnyH_take (i := 1) (v := ?_) rfl ?_ ?_ ?_ (fun _ _ _ h => h) ?_ ?_ ?_; rotate_left; kernel_rfl; kernel_rfl; kernel_rfl; (focus (refine Or.inl ⟨by rfl, ?_⟩; intro w' hSw; (try dsimp only at hSw); go_simp; with_reducible rfl)); exact hH)
        try simp only [Act.put, List.getElem_toArray, List.getElem_cons_succ, List.getElem_cons_zero, List.setIfInBounds_toArray, List.set_cons_zero, List.set_cons_succ]
        first | (refine wpAnyH_take (i := 2) (v := undef) rfl ?_ ?_ ?_ (fun _ _ _ h => h) ?_ ?_ ?_; kernel_rfl; kernel_rfl; kernel_rfl; exact Or.inr ⟨by rfl, rfl⟩; exact hH) | (refine wpAnyH_take (i := 2) (v := ?_) rfl ?_ ?_ ?_ (fun _ _ _ h => h) ?_ ?_ ?_; rotate_left; kernel_rfl; kernel_rfl; kernel_rfl; (focus (refine Or.inl ⟨by rfl, ?_⟩; intro w' hSw; (try dsimp only at hSw); go_simp)); exact hH) | (refine wpAnyH_take (i := 2) (v := ?_) rfl ?_ ?_ ?_ (fun _ _ _ h => h) ?_ ?_ ?_; rotate_left; kernel_rfl; kernel_rfl; kernel_rfl; (focus (refine Or.inl ⟨by rfl, ?_⟩; intro w' hSw; (try dsimp only at hSw); go_simp; with_reducible rfl)); exact hH)
        try simp only [Act.put, List.getElem_toArray, List.getElem_cons_succ, List.getElem_cons_zero, List.setIfInBounds_toArray, List.set_cons_zero, List.set_cons_succ]
        first | (refine wpAnyH_take (i := 3) (v := undef) rfl ?_ ?_ ?_ (fun _ _ _ h => h) ?_ ?_ ?_; kernel_rfl; kernel_rfl; kernel_rfl; exact Or.inr ⟨by rfl, rfl⟩; exact hH) | (refine wpAnyH_take (i := 3) (v := ?_) rfl ?_ ?_ ?_ (fun _ _ _ h => h) ?_ ?_ ?_; rotate_left; kernel_rfl; kernel_rfl; kernel_rfl; (focus (refine Or.inl ⟨by rfl, ?_⟩; intro w' hSw; (try dsimp only at hSw); go_simp)); exact hH) | (refine wpAnyH_take (i := 3) (v := ?_) rfl ?_ ?_ ?_ (fun _ _ _ h => h) ?_ ?_ ?_; rotate_left; kernel_rfl; kernel_rfl; kernel_rfl; (focus (refine Or.inl ⟨by rfl, ?_⟩; intro w' hSw; (try dsimp only at hSw); go_simp; with_reducible rfl)); exact hH)
        try simp only [Act.put, List.getElem_toArray, List.getElem_cons_succ, List.getElem_cons_zero, List.setIfInBounds_toArray, List.set_cons_zero, List.set_cons_succ]
        first | (refine wpAnyH_take (i := 4) (v := undef) rfl ?_ ?_ ?_ (fun _ _ _ h => h) ?_ ?_ ?_; kernel_rfl; kernel_rfl; kernel_rfl; exact Or.inr ⟨by rfl, rfl⟩; exact hH) | (refine wpAnyH_take (i := 4) (v := ?_) rfl ?_ ?_ ?_ (fun _ _ _ h => h) ?_ ?_ ?_; rotate_left; kernel_rfl; kernel_rfl; kernel_rfl; (focus (refine Or.inl ⟨by rfl, ?_⟩; intro w' hSw; (try dsimp only at hSw); go_simp)); exact hH) | (refine wpAnyH_take (i := 4) (v := ?_) rfl ?_ ?_ ?_ (fun _ _ _ h => h) ?_ ?_ ?_; rotate_left; kernel_rfl; kernel_rfl; kernel_rfl; (focus (refine Or.inl ⟨by rfl, ?_⟩; intro w' hSw; (try dsimp only at hSw); go_simp; with_reducible rfl)); exact hH)
        try simp only [Act.put, List.getElem_toArray, List.getElem_cons_succ, List.getElem_cons_zero, List.setIfInBounds_toArray, List.set_cons_zero, List.set_cons_succ]
        first | (refine wpAnyH_take (i := 5) (v := undef) rfl ?_ ?_ ?_ (fun _ _ _ h => h) ?_ ?_ ?_; kernel_rfl; kernel_rfl; kernel_rfl; exact Or.inr ⟨by rfl, rfl⟩; exact hH) | (refine wpAnyH_take (i := 5) (v := ?_) rfl ?_ ?_ ?_ (fun _ _ _ h => h) ?_ ?_ ?_; rotate_left; kernel_rfl; kernel_rfl; kernel_rfl; (focus (refine Or.inl ⟨by rfl, ?_⟩; intro w' hSw; (try dsimp only at hSw); go_simp)); exact hH) | (refine wpAnyH_take (i := 5) (v := ?_) rfl ?_ ?_ ?_ (fun _ _ _ h => h) ?_ ?_ ?_; rotate_left; kernel_rfl; kernel_rfl; kernel_rfl; (focus (refine Or.inl ⟨by rfl, ?_⟩; intro w' hSw; (try dsimp only at hSw); go_simp; with_reducible rfl)); exact hH)
        try simp only [Act.put, List.getElem_toArray, List.getElem_cons_succ, List.getElem_cons_zero, List.setIfInBounds_toArray, List.set_cons_zero, List.set_cons_succ]
        first | (refine wpAnyH_take (i := 6) (v := undef) rfl ?_ ?_ ?_ (fun _ _ _ h => h) ?_ ?_ ?_; kernel_rfl; kernel_rfl; kernel_rfl; exact Or.inr ⟨by rfl, rfl⟩; exact hH) | (refine wpAnyH_take (i := 6) (v := ?_) rfl ?_ ?_ ?_ (fun _ _ _ h => h) ?_ ?_ ?_; rotate_left; kernel_rfl; kernel_rfl; kernel_rfl; (focus (refine Or.inl ⟨by rfl, ?_⟩; intro w' hSw; (try dsimp only at hSw); go_simp)); exact hH) | (refine wpAnyH_take (i := 6) (v := ?_) rfl ?_ ?_ ?_ (fun _ _ _ h => h) ?_ ?_ ?_; rotate_left; kernel_rfl; kernel_rfl; kernel_rfl; (focus (refine Or.inl ⟨by rfl, ?_⟩; intro w' hSw; (try dsimp only at hSw); go_simp; with_reducible rfl)); exact hH)
        try simp only [Act.put, List.getElem_toArray, List.getElem_cons_succ, List.getElem_cons_zero, List.setIfInBounds_toArray, List.set_cons_zero, List.set_cons_succ]
        first | (refine wpAnyH_take (i := 7) (v := undef) rfl ?_ ?_ ?_ (fun _ _ _ h => h) ?_ ?_ ?_; kernel_rfl; kernel_rfl; kernel_rfl; exact Or.inr ⟨by rfl, rfl⟩; exact hH) | (refine wpAnyH_take (i := 7) (v := ?_) rfl ?_ ?_ ?_ (fun _ _ _ h => h) ?_ ?_ ?_; rotate_left; kernel_rfl; kernel_rfl; kernel_rfl; (focus (refine Or.inl ⟨by rfl, ?_⟩; intro w' hSw; (try dsimp only at hSw); go_simp)); exact hH) | (refine wpAnyH_take (i := 7) (v := ?_) rfl ?_ ?_ ?_ (fun _ _ _ h => h) ?_ ?_ ?_; rotate_left; kernel_rfl; kernel_rfl; kernel_rfl; (focus (refine Or.inl ⟨by rfl, ?_⟩; intro w' hSw; (try dsimp only at hSw); go_simp; with_reducible rfl)); exact hH)
        try simp only [Act.put, List.getElem_toArray, List.getElem_cons_succ, List.getElem_cons_zero, List.setIfInBounds_toArray, List.set_cons_zero, List.set_cons_succ]
        first | (refine wpAnyH_take (i := 8) (v := undef) rfl ?_ ?_ ?_ (fun _ _ _ h => h) ?_ ?_ ?_; kernel_rfl; kernel_rfl; kernel_rfl; exact Or.inr ⟨by rfl, rfl⟩; exact hH) | (refine wpAnyH_take (i := 8) (v := ?_) rfl ?_ ?_ ?_ (fun _ _ _ h => h) ?_ ?_ ?_; rotate_left; kernel_rfl; kernel_rfl; kernel_rfl; (focus (refine Or.inl ⟨by rfl, ?_⟩; intro w' hSw; (try dsimp only at hSw); go_simp)); exact hH) | (refine wpAnyH_take (i := 8) (v := ?_) rfl ?_ ?_ ?_ (fun _ _ _ h => h) ?_ ?_ ?_; rotate_left; kernel_rfl; kernel_rfl; kernel_rfl; (focus (refine Or.inl ⟨by rfl, ?_⟩; intro w' hSw; (try dsimp only at hSw); go_simp; with_reducible rfl)); exact hH)
        try simp only [Act.put, List.getElem_toArray, List.getElem_cons_succ, List.getElem_cons_zero, List.setIfInBounds_toArray, List.set_cons_zero, List.set_cons_succ]
        first | (refine wpAnyH_take (i := 9) (v := undef) rfl ?_ ?_ ?_ (fun _ _ _ h => h) ?_ ?_ ?_; kernel_rfl; kernel_rfl; kernel_rfl; exact Or.inr ⟨by rfl, rfl⟩; exact hH) | (refine wpAnyH_take (i := 9) (v := ?_) rfl ?_ ?_ ?_ (fun _ _ _ h => h) ?_ ?_ ?_; rotate_left; kernel_rfl; kernel_rfl; kernel_rfl; (focus (refine Or.inl ⟨by rfl, ?_⟩; intro w' hSw; (try dsimp only at hSw); go_simp)); exact hH) | (refine wpAnyH_take (i := 9) (v := ?_) rfl ?_ ?_ ?_ (fun _ _ _ h => h) ?_ ?_ ?_; rotate_left; kernel_rfl; kernel_rfl; kernel_rfl; (focus (refine Or.inl ⟨by rfl, ?_⟩; intro w' hSw; (try dsimp only at hSw); go_simp; with_reducible rfl)); exact hH)
        try simp only [Act.put, List.getElem_toArray, List.getElem_cons_succ, List.getElem_cons_zero, List.setIfInBounds_toArray, List.set_cons_zero, List.set_cons_succ]
        first | (refine wpAnyH_take (i := 10) (v := undef) rfl ?_ ?_ ?_ (fun _ _ _ h => h) ?_ ?_ ?_; kernel_rfl; kernel_rfl; kernel_rfl; exact Or.inr ⟨by rfl, rfl⟩; exact hH) | (refine wpAnyH_take (i := 10) (v := ?_) rfl ?_ ?_ ?_ (fun _ _ _ h => h) ?_ ?_ ?_; rotate_left; kernel_rfl; kernel_rfl; kernel_rfl; (focus (refine Or.inl ⟨by rfl, ?_⟩; intro w' hSw; (try dsimp only at hSw); go_simp)); exact hH) | (refine wpAnyH_take (i := 10) (v := ?_) rfl ?_ ?_ ?_ (fun _ _ _ h => h) ?_ ?_ ?_; rotate_left; kernel_rfl; kernel_rfl; kernel_rfl; (focus (refine Or.inl ⟨by rfl, ?_⟩; intro w' hSw; (try dsimp only at hSw); go_simp; with_reducible rfl)); exact hH)
        try simp only [Act.put, List.getElem_toArray, List.getElem_cons_succ, List.getElem_cons_zero, List.setIfInBounds_toArray, List.set_cons_zero, List.set_cons_succ]
        refine wpAnyH_ready (rs := [11]) (by kernel_rfl) (by simp) ?_
        refine AllReadyH.cons rfl (fun K hK => ?_) AllReadyH.nil
        go_simp
        with_reducible refine (ST.out _ (HQ2.out.next (below_of_drew (Below.refl _ _)))).mono ?_
        rintro e w31 ⟨rfl, hq2, hf2⟩
        have hb31 : Below w.heap.size w w31 := (HB2.out.drew.trans (hf2.below (B := w.heap.size) (by simpa using HB2.out.size) (fun k hk e => by omega)))
        try go_wp2_with fail
        refine hK.out _ _ (K5.out _ hb31) (fun hH31 => ?_)
        clear hK K hH
        have hH := hH31
        clear hH31
        try simp only [Act.put, List.getElem_toArray, List.getElem_cons_succ, List.getElem_cons_zero, List.setIfInBounds_toArray, List.set_cons_zero, List.set_cons_succ]
        refine wpAnyH_done (by kernel_rfl) ?_ _
        refine NoPanic.normal ?_
        clear hH
        have HQ3 := Lib.hid hq2
        have HI3 := Lib.hid ((HI2.out.next (below_of_drew (Below.refl _ _))).fr hf2 (fun k hk _ e => by omega))
        have HB3 := Lib.hid hb31
        clear HQ2 HI2 HB2 hq2 hf2 hb31 ST
        go_wp2_with fail
        refine wp_region_noPanic ?_
        refine wp_region_held_drew (S := fun w' => (w'.cell? ⟨bA, off + i * 4, none⟩ = some (.int .u64 (X i)) ∧ w'.cell? ⟨bA, off + i * 4 + 1, none⟩ = some (.int .u64 (Y i))) ∧ Below (w.heap.size) w w') (by kernel_rfl) (K5.out _ (below_of_drew (HB3.out))) (fun hH => ?_)
        first | (refine wpAnyH_take (i := 0) (v := undef) rfl ?_ ?_ ?_ (fun _ _ _ h => h) ?_ ?_ ?_; kernel_rfl; kernel_rfl; kernel_rfl; exact Or.inr ⟨by rfl, rfl⟩; exact hH) | (refine wpAnyH_take (i := 0) (v := ?_) rfl ?_ ?_ ?_ (fun _ _ _ h => h) ?_ ?_ ?_; rotate_left; kernel_rfl; kernel_rfl; kernel_rfl; (focus (refine Or.inl ⟨by rfl, ?_⟩; intro w' hSw; (try dsimp only at hSw); go_simp)); exact hH) | (refine wpAnyH_take (i := 0) (v := ?_) rfl ?_ ?_ ?_ (fun _ _ _ h => h) ?_ ?_ ?_; rotate_left; kernel_rfl; kernel_rfl; kernel_rfl; (focus (refine Or.inl ⟨by rfl, ?_⟩; intro w' hSw; (try dsimp only at hSw); go_simp; with_reducible rfl)); exact hH)
        try simp only [Act.put, List.getElem_toArray, List.getElem_cons_succ, List.getElem_cons_zero, List.setIfInBounds_toArray, List.set_cons_zero, List.set_cons_succ]
        first | (refine wpAnyH_take (i := 1) (v := undef) rfl ?_ ?_ ?_ (fun _ _ _ h => h) ?_ ?_ ?_; kernel_rfl; kernel_rfl; kernel_rfl; exact Or.inr ⟨by rfl, rfl⟩; exact hH) | (refine wpAnyH_take (i := 1) (v := ?_) rfl ?_ ?_ ?_ (fun _ _ _ h => h) ?_ ?_ ?_; rotate_left; kernel_rfl; kernel_rfl; kernel_rfl; (focus (refine Or.inl ⟨by rfl, ?_⟩; intro w' hSw; (try dsimp only at hSw); go_simp)); exact hH) | (refine wpAnyH_take (i := 1) (v := ?_) rfl ?_ ?_ ?_ (fun _ _ _ h => h) ?_ ?_ ?_; rotate_left; kernel_rfl; kernel_rfl; kernel_rfl; (focus (refine Or.inl ⟨by rfl, ?_⟩; intro w' hSw; (try dsimp only at hSw); go_simp; with_reducible rfl)); exact hH)
        try simp only [Act.put, List.getElem_toArray, List.getElem_cons_succ, List.getElem_cons_zero, List.setIfInBounds_toArray, List.set_cons_zero, List.set_cons_succ]
        first | (refine wpAnyH_take (i := 2) (v := undef) rfl ?_ ?_ ?_ (fun _ _ _ h => h) ?_ ?_ ?_; kernel_rfl; kernel_rfl; kernel_rfl; exact Or.inr ⟨by rfl, rfl⟩; exact hH) | (refine wpAnyH_take (i := 2) (v := ?_) rfl ?_ ?_ ?_ (fun _ _ _ h => h) ?_ ?_ ?_; rotate_left; kernel_rfl; kernel_rfl; kernel_rfl; (focus (refine Or.inl ⟨by rfl, ?_⟩; intro w' hSw; (try dsimp only at hSw); go_simp)); exact hH) | (refine wpAnyH_take (i := 2) (v := ?_) rfl ?_ ?_ ?_ (fun _ _ _ h => h) ?_ ?_ ?_; rotate_left; kernel_rfl; kernel_rfl; kernel_rfl; (focus (refine Or.inl ⟨by rfl, ?_⟩; intro w' hSw; (try dsimp only at hSw); go_simp; with_reducible rfl)); exact hH)
        try simp only [Act.put, List.getElem_toArray, List.getElem_cons_succ, List.getElem_cons_zero, List.setIfInBounds_toArray, List.set_cons_zero, List.set_cons_succ]
        first | (refine wpAnyH_take (i := 3) (v := undef) rfl ?_ ?_ ?_ (fun _ _ _ h => h) ?_ ?_ ?_; kernel_rfl; kernel_rfl; kernel_rfl; exact Or.inr ⟨by rfl, rfl⟩; exact hH) | (refine wpAnyH_take (i := 3) (v := ?_) rfl ?_ ?_ ?_ (fun _ _ _ h => h) ?_ ?_ ?_; rotate_left; kernel_rfl; kernel_rfl; kernel_rfl; (focus (refine Or.inl ⟨by rfl, ?_⟩; intro w' hSw; (try dsimp only at hSw); go_simp)); exact hH) | (refine wpAnyH_take (i := 3) (v := ?_) rfl ?_ ?_ ?_ (fun _ _ _ h => h) ?_ ?_ ?_; rotate_left; kernel_rfl; kernel_rfl; kernel_rfl; (focus (refine Or.inl ⟨by rfl, ?_⟩; intro w' hSw; (try dsimp only at hSw); go_simp; with_reducible rfl)); exact hH)
        try simp only [Act.put, List.getElem_toArray, List.getElem_cons_succ, List.getElem_cons_zero, List.setIfInBounds_toArray, List.set_cons_zero, List.set_cons_succ]
        first | (refine wpAnyH_take (i := 4) (v := undef) rfl ?_ ?_ ?_ (fun _ _ _ h => h) ?_ ?_ ?_; kernel_rfl; kernel_rfl; kernel_rfl; exact Or.inr ⟨by rfl, rfl⟩; exact hH) | (refine wpAnyH_take (i := 4) (v := ?_) rfl ?_ ?_ ?_ (fun _ _ _ h => h) ?_ ?_ ?_; rotate_left; kernel_rfl; kernel_rfl; kernel_rfl; (focus (refine Or.inl ⟨by rfl, ?_⟩; intro w' hSw; (try dsimp only at hSw); go_simp)); exact hH) | (refine wpAnyH_take (i := 4) (v := ?_) rfl ?_ ?_ ?_ (fun _ _ _ h => h) ?_ ?_ ?_; rotate_left; kernel_rfl; kernel_rfl; kernel_rfl; (focus (refine Or.inl ⟨by rfl, ?_⟩; intro w' hSw; (try dsimp only at hSw); go_simp; with_reducible rfl)); exact hH)
        try simp only [Act.put, List.getElem_toArray, List.getElem_cons_succ, List.getElem_cons_zero, List.setIfInBounds_toArray, List.set_cons_zero, List.set_cons_succ]
        first | (refine wpAnyH_take (i := 5) (v := undef) rfl ?_ ?_ ?_ (fun _ _ _ h => h) ?_ ?_ ?_; kernel_rfl; kernel_rfl; kernel_rfl; exact Or.inr ⟨by rfl, rfl⟩; exact hH) | (refine wpAnyH_take (i := 5) (v := ?_) rfl ?_ ?_ ?_ (fun _ _ _ h => h) ?_ ?_ ?_; rotate_left; kernel_rfl; kernel_rfl; kernel_rfl; (focus (refine Or.inl ⟨by rfl, ?_⟩; intro w' hSw; (try dsimp only at hSw); go_simp)); exact hH) | (refine wpAnyH_take (i := 5) (v := ?_) rfl ?_ ?_ ?_ (fun _ _ _ h => h) ?_ ?_ ?_; rotate_left; kernel_rfl; kernel_rfl; kernel_rfl; (focus (refine Or.inl ⟨by rfl, ?_⟩; intro w' hSw; (try dsimp only at hSw); go_simp; with_reducible rfl)); exact hH)
        try simp only [Act.put, List.getElem_toArray, List.getElem_cons_succ, List.getElem_cons_zero, List.setIfInBounds_toArray, List.set_cons_zero, List.set_cons_succ]
        first | (refine wpAnyH_take (i := 6) (v := undef) rfl ?_ ?_ ?_ (fun _ _ _ h => h) ?_ ?_ ?_; kernel_rfl; kernel_rfl; kernel_rfl; exact Or.inr ⟨by rfl, rfl⟩; exact hH) | (refine wpAnyH_take (i := 6) (v := ?_) rfl ?_ ?_ ?_ (fun _ _ _ h => h) ?_ ?_ ?_; rotate_left; kernel_rfl; kernel_rfl; kernel_rfl; (focus (refine Or.inl ⟨by rfl, ?_⟩; intro w' hSw; (try dsimp only at hSw); go_simp)); exact hH) | (refine wpAnyH_take (i := 6) (v := ?_) rfl ?_ ?_ ?_ (fun _ _ _ h => h) ?_ ?_ ?_; rotate_left; kernel_rfl; kernel_rfl; kernel_rfl; (focus (refine Or.inl ⟨by rfl, ?_⟩; intro w' hSw; (try dsimp only at hSw); go_simp; with_reducible rfl)); exact hH)
        try simp only [Act.put, List.getElem_toArray, List.getElem_cons_succ, List.getElem_cons_zero, List.setIfInBounds_toArray, List.set_cons_zero, List.set_cons_succ]
        first | (refine wpAnyH_take (i := 7) (v := undef) rfl ?_ ?_ ?_ (fun _ _ _ h => h) ?_ ?_ ?_; kernel_rfl; kernel_rfl; kernel_rfl; exact Or.inr ⟨by rfl, rfl⟩; exact hH) | (refine wpAnyH_take (i := 7) (v := ?_) rfl ?_ ?_ ?_ (fun _ _ _ h => h) ?_ ?_ ?_; rotate_left; kernel_rfl; kernel_rfl; kernel_rfl; (focus (refine Or.inl ⟨by rfl, ?_⟩; intro w' hSw; (try dsimp only at hSw); go_simp)); exact hH) | (refine wpAnyH_take (i := 7) (v := ?_) rfl ?_ ?_ ?_ (fun _ _ _ h => h) ?_ ?_ ?_; rotate_left; kernel_rfl; kernel_rfl; kernel_rfl; (focus (refine Or.inl ⟨by rfl, ?_⟩; intro w' hSw; (try dsimp only at hSw); go_simp; with_reducible rfl)); exact hH)
        try simp only [Act.put, List.getElem_toArray, List.getElem_cons_succ, List.getElem_cons_zero, List.setIfInBounds_toArray, List.set_cons_zero, List.set_cons_succ]
        first | (refine wpAnyH_take (i := 8) (v := undef) rfl ?_ ?_ ?_ (fun _ _ _ h => h) ?_ ?_ ?_; kernel_rfl; kernel_rfl; kernel_rfl; exact Or.inr ⟨by rfl, rfl⟩; exact hH) | (refine wpAnyH_take (i := 8) (v := ?_) rfl ?_ ?_ ?_ (fun _ _ _ h => h) ?_ ?_ ?_; rotate_left; kernel_rfl; kernel_rfl; kernel_rfl; (focus (refine Or.inl ⟨by rfl, ?_⟩; intro w' hSw; (try dsimp only at hSw); go_simp)); exact hH) | (refine wpAnyH_take (i := 8) (v := ?_) rfl ?_ ?_ ?_ (fun _ _ _ h => h) ?_ ?_ ?_; rotate_left; kernel_rfl; kernel_rfl; kernel_rfl; (focus (refine Or.inl ⟨by rfl, ?_⟩; intro w' hSw; (try dsimp only at hSw); go_simp; with_reducible rfl)); exact hH)
        try simp only [Act.put, List.getElem_toArray, List.getElem_cons_succ, List.getElem_cons_zero, List.setIfInBounds_toArray, List.set_cons_zero, List.set_cons_succ]
        first | (refine wpAnyH_take (i := 9) (v := undef) rfl ?_ ?_ ?_ (fun _ _ _ h => h) ?_ ?_ ?_; kernel_rfl; kernel_rfl; kernel_rfl; exact Or.inr ⟨by rfl, rfl⟩; exact hH) | (refine wpAnyH_take (i := 9) (v := ?_) rfl ?_ ?_ ?_ (fun _ _ _ h => h) ?_ ?_ ?_; rotate_left; kernel_rfl; kernel_rfl; kernel_rfl; (focus (refine Or.inl ⟨by rfl, ?_⟩; intro w' hSw; (try dsimp only at hSw); go_simp)); exact hH) | (refine wpAnyH_take (i := 9) (v := ?_) rfl ?_ ?_ ?_ (fun _ _ _ h => h) ?_ ?_ ?_; rotate_left; kernel_rfl; kernel_rfl; kernel_rfl; (focus (refine Or.inl ⟨by rfl, ?_⟩; intro w' hSw; (try dsimp only at hSw); go_simp; with_reducible rfl)); exact hH)
        try simp only [Act.put, List.getElem_toArray, List.getElem_cons_succ, List.getElem_cons_zero, List.setIfInBounds_toArray, List.set_cons_zero, List.set_cons_succ]
        first | (refine wpAnyH_take (i := 10) (v := undef) rfl ?_ ?_ ?_ (fun _ _ _ h => h) ?_ ?_ ?_; kernel_rfl; kernel_rfl; kernel_rfl; exact Or.inr ⟨by rfl, rfl⟩; exact hH) | (refine wpAnyH_take (i := 10) (v := ?_) rfl ?_ ?_ ?_ (fun _ _ _ h => h) ?_ ?_ ?_; rotate_left; kernel_rfl; kernel_rfl; kernel_rfl; (focus (refine Or.inl ⟨by rfl, ?_⟩; intro w' hSw; (try dsimp only at hSw); go_simp)); exact hH) | (refine wpAnyH_take (i := 10) (v := ?_) rfl ?_ ?_ ?_ (fun _ _ _ h => h) ?_ ?_ ?_; rotate_left; kernel_rfl; kernel_rfl; kernel_rfl; (focus (refine Or.inl ⟨by rfl, ?_⟩; intro w' hSw; (try dsimp only at hSw); go_simp; with_reducible rfl)); exact hH)
        try simp only [Act.put, List.getElem_toArray, List.getElem_cons_succ, List.getElem_cons_zero, List.setIfInBounds_toArray, List.set_cons_zero, List.set_cons_succ]
        refine wpAnyH_ready (rs := [11]) (by kernel_rfl) (by simp) ?_
        refine AllReadyH.cons rfl (fun K hK => ?_) AllReadyH.nil
        go_simp
        with_reducible refine (RS.out _ (HI3.out.next (below_of_drew (Below.refl _ _)))).mono ?_
        rintro e w32 ⟨rfl, hi2, hf2⟩
        have hb32 : Below w.heap.size w w32 := (HB3.out.drew.trans (hf2.mono (by omega)))
        try go_wp2_with fail
        refine hK.out _ _ (K5.out _ hb32) (fun hH32 => ?_)
        clear hK K hH
        have hH := hH32
        clear hH32
        try simp only [Act.put, List.getElem_toArray, List.getElem_cons_succ, List.getElem_cons_zero, List.setIfInBounds_toArray, List.set_cons_zero, List.set_cons_succ]
        refine wpAnyH_done (by kernel_rfl) ?_ _
        refine NoPanic.normal ?_
        clear hH
        have HQ4 := Lib.hid (show IsBent w32 p F L R _ _ _ _ from Blk.below (Blk.drew HQ3.out) hf2 zq)
        have HI4 := Lib.hid hi2
        have HB4 := Lib.hid hb32
        have ct := (HB4.out.cell (p := ⟨bA, off + i * 4, none⟩) hbA).trans HC4.out.1
        have ct1 := (HB4.out.cell (p := ⟨bA, off + i * 4 + 1, none⟩) hbA).trans HC4.out.2.1
        have ct2 := (HB4.out.cell (p := ⟨bA, off + i * 4 + 2, none⟩) hbA).trans HC4.out.2.2.1
        have ct3 := (HB4.out.cell (p := ⟨bA, off + i * 4 + 3, none⟩) hbA).trans HC4.out.2.2.2
        clear HQ3 HI3 HB3 hi2 hf2 hb32 RS K5
        go_wp2_with fail
        with_reducible refine (SB.out p q i _ _ _ (by omega) HQ4.out HI4.out).mono ?_
        rintro e w33 ⟨rfl, hb33⟩
        have HQ5 := Lib.hid (HQ4.out.next hb33)
        have HI5 := Lib.hid (HI4.out.next hb33)
        have HB5 := Lib.hid (below_next HB4.out hb33)
        clear HQ4 HI4 HB4 hb33 ct ct1 ct2 ct3
        go_wp2_with fail
        go_roundg gm
        case rel => exact ⟨i + 1, by omega, by go_num, HQ5.out, HI5.out, HB5.out⟩
        case measure => omega
    · obtain rfl : go = 0 := by omega
      obtain rfl : i = n := by omega
      go_wp2_with fail
      go_ret
      exact ⟨rfl, HB.out⟩

end Go.Proofs.Ytdkeoanlcninkaa
