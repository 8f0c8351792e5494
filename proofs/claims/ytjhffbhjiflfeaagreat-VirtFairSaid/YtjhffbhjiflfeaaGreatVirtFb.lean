/-
  VirtFair holds.
-/
import Derived.Test.YtjhffbhjiflfeaaGreatVirtFa
namespace Go.Proofs.YtjhffbhjiflfeaaGreat
set_option linter.unusedVariables false
set_option linter.unusedSimpArgs false
set_option maxRecDepth 100000
open Go.RowKit Go.Shelf

set_option maxHeartbeats 32000000 in
theorem virtFair_walk (w : World) (A0 : Option Addr) (n0 c0 : Nat) (F : Nat → Int) (fF : ∀ i, i < n0 → (Lit.int .u16 (F i)).wf = true) (hl0 : n0 ≤ c0) (hm0 : c0 ≤ maxLen) (hA0 : 0 < n0 → ∃ b off, A0 = some ⟨b, off, none⟩ ∧ b < w.heap.size) (hF : ∀ b off, A0 = some ⟨b, off, none⟩ → ∀ i, i < n0 → w.cell? ⟨b, off + (i * 1 + 0), none⟩ = some (.int .u16 (F i)))
    (A : Option Addr) (n c : Nat) (K : Nat → Int) (fK : ∀ i, i < n → (Lit.int .u8 (K i)).wf = true) (I : Nat → Int) (fI : ∀ i, i < n → (Lit.int .i64 (I i)).wf = true) (P : Nat → Int) (fP : ∀ i, i < n → (Lit.int .u16 (P i)).wf = true) (Q : Nat → Int) (fQ : ∀ i, i < n → (Lit.int .u16 (Q i)).wf = true) (hl : n ≤ c) (hm : c ≤ maxLen)
    (hA : 0 < n → ∃ b off, A = some ⟨b, off, none⟩ ∧ b < w.heap.size) (hK : ∀ b off, A = some ⟨b, off, none⟩ → ∀ i, i < n → w.cell? ⟨b, off + (i * 4 + 0), none⟩ = some (.int .u8 (K i))) (hI : ∀ b off, A = some ⟨b, off, none⟩ → ∀ i, i < n → w.cell? ⟨b, off + (i * 4 + 1), none⟩ = some (.int .i64 (I i)))
    (hP : ∀ b off, A = some ⟨b, off, none⟩ → ∀ i, i < n → w.cell? ⟨b, off + (i * 4 + 2), none⟩ = some (.int .u16 (P i))) (hQ : ∀ b off, A = some ⟨b, off, none⟩ → ∀ i, i < n → w.cell? ⟨b, off + (i * 4 + 3), none⟩ = some (.int .u16 (Q i)))
    (a2 : Int) (f2 : (Lit.int .u8 a2).wf = true) (a3 : Int) (f3 : (Lit.int .u8 a3).wf = true) :
    Calls Tryz.prog 5 #[.slice A0 n0 c0, .slice A n c, .int .u8 a2, .int .u8 a3] w fun e w' => e = .returned (.bool true) ∧ Below w.heap.size w w' := by
  have HA : Hid (FTurns w A n K I P Q) := ⟨hA, fun b off h i hi => ⟨by simpa using hK b off h i hi, by simpa [Nat.add_assoc] using hI b off h i hi, by simpa [Nat.add_assoc] using hP b off h i hi, by simpa [Nat.add_assoc] using hQ b off h i hi⟩⟩
  have HB0 : Hid (FSlopes w A0 n0 F) := ⟨hA0, fun b off h i hi => by simpa using hF b off h i hi⟩
  have HW := Lib.hid (And.intro (fun i hi => u16_of_wf (fP i hi)) (fun i hi => u16_of_wf (fQ i hi)))
  have HWF := Lib.hid (fun i hi => u16_of_wf (fF i hi))
  have HU := Lib.hid (And.intro (bounds_u8 f2) (bounds_u8 f3))
  clear hA hK hI hP hQ fK fI fP fQ hl hm fF hl0 hm0 hA0 hF f2 f3
  have AW := Lib.hid (vawake_law w)
  by_cases g1 : n0 < 2
  · have d1 : decide ((n0 : Int) < 2) = true := decide_eq_true (by omega)
    have d2 : decide (n0 < 2) = true := decide_eq_true g1
    clear g1
    go_enter Tryz.func5, Tryz.ntmps5
    go_wp2_with fail
    with_reducible refine (AW.out).mono ?_
    rintro e w1 ⟨rfl, hb1⟩
    have HB := Lib.hid hb1
    clear hb1
    go_wp2_with fail
    go_ret
    exact ⟨by simp, HB.out⟩
  have d1 : decide ((n0 : Int) < 2) = false := decide_eq_false (by omega)
  have d2 : decide (n0 < 2) = false := decide_eq_false g1
  by_cases g2 : 8 < n0
  · have d3 : decide ((8 : Int) < (n0 : Int)) = true := decide_eq_true (by omega)
    have d4 : decide (8 < n0) = true := decide_eq_true g2
    clear g1 g2
    go_enter Tryz.func5, Tryz.ntmps5
    go_wp2_with fail
    with_reducible refine (AW.out).mono ?_
    rintro e w1 ⟨rfl, hb1⟩
    have HB := Lib.hid hb1
    clear hb1
    go_wp2_with fail
    go_ret
    exact ⟨by simp, HB.out⟩
  have d3 : decide ((8 : Int) < (n0 : Int)) = false := decide_eq_false (by omega)
  have d4 : decide (8 < n0) = false := decide_eq_false g2
  by_cases g3 : 100 < n
  · have d5 : decide ((100 : Int) < (n : Int)) = true := decide_eq_true (by omega)
    have d6 : decide (100 < n) = true := decide_eq_true g3
    clear g1 g2 g3
    go_enter Tryz.func5, Tryz.ntmps5
    go_wp2_with fail
    with_reducible refine (AW.out).mono ?_
    rintro e w1 ⟨rfl, hb1⟩
    have HB := Lib.hid hb1
    clear hb1
    go_wp2_with fail
    go_ret
    exact ⟨by simp, HB.out⟩
  have d5 : decide ((100 : Int) < (n : Int)) = false := decide_eq_false (by omega)
  have d6 : decide (100 < n) = false := decide_eq_false g3
  have HN := Lib.hid (show 2 ≤ n0 ∧ n0 ≤ 8 ∧ n ≤ 100 by omega)
  clear g1 g2 g3
  obtain ⟨rF, hrF⟩ : ∃ r : Int → Int, r = fun j => slopeN (F j.toNat) := ⟨_, rfl⟩
  have HRF := Lib.hid hrF
  clear hrF
  go_enter Tryz.func5, Tryz.ntmps5
  go_wp2_with fail
  with_reducible refine (AW.out).mono ?_
  rintro e ws ⟨rfl, hb1⟩
  have HB := Lib.hid hb1
  clear hb1
  go_wp2_with fail
  with_reducible refine (fi_new ws).mono ?_
  rintro e wt ⟨f, mb, rfl, h2⟩
  have H2 := Lib.hid h2
  clear h2 d1 d2 d3 d4 d5 d6
  go_wp2_with fail
  go_loopg [11, 13] n0 (fun gk lv ix wr => ∃ (i : Nat) (l : Int) (S : FS), i + gk = n0 ∧ ix = .int .i64 i ∧ lv = .int .u64 l ∧ FamIn ws.heap.size ws wr f mb S ∧ S.ok i ∧ Strt l 0 0 S ∧ Come i rF S)
  case atStart => exact ⟨0, 4096, ⟨0, []⟩, by omega, rfl, rfl, H2.out, fs_none, strt_none, come_none _⟩
  case round =>
    obtain ⟨i, l, S, hi, rfl, rfl, hfam, hok, hst, hcm⟩ := hrel
    have HF := Lib.hid (And.intro hfam (And.intro hok (And.intro hst hcm)))
    clear hfam hok hst hcm H2
    obtain ⟨wo, rfl⟩ : ∃ x : World, x = wr := ⟨_, rfl⟩
    by_cases hlt : i < n0
    · obtain ⟨gm, rfl⟩ : ∃ gm, gk = gm + 1 := ⟨gk - 1, by omega⟩
      have HAO := Lib.hid ((HB0.out.below HB.out).below HF.out.1.below)
      obtain ⟨bA, off, rfl, hbA⟩ := HAO.out.addr (by omega)
      have c0 := HAO.out.cells bA off rfl i hlt
      have p0 : (0 : Int) ≤ (i : Int) := by omega
      have p1 : (i : Int) < ((i + (gm + 1) : Nat) : Int) := by omega
      have p1' : (i : Int) < (n0 : Int) := by omega
      have HII := Lib.hid hi
      have e5 : wrap64 ((i : Int) + 1) = ((i + 1 : Nat) : Int) := by have := HN.out; unfold wrap64; omega
      obtain ⟨s, hs⟩ : ∃ z, F i = z := ⟨_, rfl⟩
      have hws := HWF.out i hlt
      rw [hs] at c0 hws
      have hr : rF i = slopeN s := by rw [HRF.out, ← hs]; show slopeN (F (i : Int).toNat) = _; rw [Int.toNat_natCast]
      have sb := slope_bounds hws.1
      have SL := Lib.hid (slope_any 0 0 s 0 wo hws.1 hws.2)
      rw [← hr] at SL sb
      obtain ⟨sl, esl⟩ : ∃ z, rF i = z := ⟨_, rfl⟩
      rw [esl] at SL sb
      obtain ⟨l', hl'⟩ : ∃ z, min l sl = z := ⟨_, rfl⟩
      have hl1 := HF.out.2.2.1.l1
      have HSL := Lib.hid (And.intro esl (And.intro (show 1 ≤ l' ∧ l' ≤ l ∧ l' ≤ sl by omega) sb))
      have hmin := hl'
      have HMIN := Lib.hid hmin
      clear hlt hs hws hr sb esl hl' hl1 hmin
      go_wp2_with fail
      with_reducible refine (SL.out).mono ?_
      rintro e w1 ⟨rfl, hb1⟩
      have H1 := Lib.hid (And.intro (HF.out.1.next hb1) (HF.out.2.2.1.lower HSL.out.2.1.1 HSL.out.2.1.2.1))
      have AD := Lib.hid (fi_add (i : Int) 0 0 sl H1.out.1 (by decide) (by decide) ⟨by have := HSL.out.2.2; omega, by have := HSL.out.2.2; omega⟩)
      clear hb1
      go_wp2_with fail
      with_reducible refine (AD.out).mono ?_
      rintro e w2 ⟨rfl, S', had, hf, hsp⟩
      have had2 : Added (i : Int) 0 0 (rF i) S S' := by rw [HSL.out.1]; exact had
      have HG := Lib.hid (And.intro hf (And.intro (added_ok had HF.out.2.1).1 (And.intro (H1.out.2.added HF.out.2.1 had (by have := HSL.out.2.2; omega) HSL.out.2.1.2.2 HSL.out.2.2.2) (HF.out.2.2.2.add (by rw [HSL.out.1]; exact HSL.out.2.2.1) (by rw [HSL.out.1]; exact HSL.out.2.2.2) had2))))
      clear had had2 hf hsp AD
      go_wp2_with fail
      rw [HMIN.out]
      go_roundg gm
      case rel => exact ⟨i + 1, l', S', by have := HII.out; omega, by go_num, rfl, HG.out.1, HG.out.2.1, HG.out.2.2.1, HG.out.2.2.2⟩
      case measure => omega
    · obtain rfl : gk = 0 := by omega
      obtain rfl : n0 = i := by omega
      have HL1 := Lib.hid HF.out.2.2.1.l1
      have dd1 : decide ((n0 : Int) < (n0 : Int)) = false := decide_eq_false (by omega)
      have hn0 := HN.out
      have ea : IntKind.i64.wrap a2 = a2 := by have := HU.out.1; rw [IntKind.wrap_i64]; omega
      have eb : IntKind.i64.wrap a3 = a3 := by have := HU.out.2; rw [IntKind.wrap_i64]; omega
      have ta := tmod_bounds HU.out.1.1 (m := (n0 : Int)) (by omega)
      have tb := tmod_bounds HU.out.2.1 (m := (n0 : Int)) (by omega)
      obtain ⟨an, han⟩ : ∃ z : Nat, a2.tmod (n0 : Int) = (z : Int) := ⟨(a2.tmod (n0 : Int)).toNat, by omega⟩
      obtain ⟨bn, hbn⟩ : ∃ z : Nat, a3.tmod (n0 : Int) = (z : Int) := ⟨(a3.tmod (n0 : Int)).toNat, by omega⟩
      have HAB := Lib.hid (show an < n0 ∧ bn < n0 by omega)
      have nz1 : ((n0 : Int) == 0) = false := beq_eq_false_iff_ne.2 (by omega)
      have nz2 : ¬ (n0 : Int) = 0 := by omega
      have nz3 : ¬ n0 = 0 := by omega
      have wa1 : IntKind.i64.wrap (an : Int) = an := by rw [IntKind.wrap_i64]; omega
      have wb1 : IntKind.i64.wrap (bn : Int) = bn := by rw [IntKind.wrap_i64]; omega
      have wa2 : wrap64 (an : Int) = an := by unfold wrap64; omega
      have wb2 : wrap64 (bn : Int) = bn := by unfold wrap64; omega
      obtain ⟨bg, hbg⟩ : ∃ z : Nat, (n : Int).tdiv 4 = (z : Int) := ⟨n / 4, by rw [Int.tdiv_eq_ediv_of_nonneg (by omega)]; omega⟩
      have hbg1 : bg ≤ 100 := by rw [Int.tdiv_eq_ediv_of_nonneg (by omega)] at hbg; omega
      have wg1 : IntKind.i64.wrap (bg : Int) = bg := by rw [IntKind.wrap_i64]; omega
      have wg2 : wrap64 (bg : Int) = bg := by unfold wrap64; omega
      clear hlt hi hn0 ta tb
      go_upto_region 14 with (fail)
      go_region
      go_upto_region 16 with (fail)
      have hba : Below wo.heap.size wo ((wo.alloc (.cells #[.int .u64 0, .int .u64 0, .int .u64 0, .int .u64 0, .int .u64 0, .int .u64 0, .int .u64 0, .int .u64 0] 57)).drew) := by go_grown
      have bG := Blk.drew (Blk.new wo 57 #[.int .u64 0, .int .u64 0, .int .u64 0, .int .u64 0, .int .u64 0, .int .u64 0, .int .u64 0, .int .u64 0])
      obtain ⟨wg, hwg⟩ : ∃ z : World, (wo.alloc (.cells #[.int .u64 0, .int .u64 0, .int .u64 0, .int .u64 0, .int .u64 0, .int .u64 0, .int .u64 0, .int .u64 0] 57)).drew = z := ⟨_, rfl⟩
      rw [hwg] at hba bG ⊢
      obtain ⟨GB, hGB⟩ : ∃ z, wo.heap.size = z := ⟨_, rfl⟩
      have hgb : ws.heap.size ≤ GB := by rw [← hGB]; exact HF.out.1.below.size
      rw [hGB] at bG ⊢
      have H0 := Lib.hid (And.intro (HF.out.1.next hba) (And.intro (g8_new bG) (And.intro HF.out.2.1 (And.intro HF.out.2.2.1 HF.out.2.2.2.kin))))
      have HGB := Lib.hid hgb
      clear hba bG hwg hGB hgb HF
      go_wp2_with fail
      clear ea eb nz1 nz2 nz3 wa1 wb1 wa2 wb2 wg1 wg2 han hbn hbg
      go_loopg [12, 19] n (fun gk mv ix wr => ∃ (i : Nat) (M : Int) (U : FS) (gt : Int → Int), i + gk = n ∧ ix = .int .i64 i ∧ mv = .int .u64 M ∧ FamIn ws.heap.size ws wr f mb U ∧ U.ok (8 + 3 * i) ∧ Strt l M i U ∧ Kin n0 rF U ∧ G8 wr GB gt ∧ (∀ j : Int, 0 ≤ j → j < 8 → 0 ≤ gt j ∧ gt j ≤ 384000 * i) ∧ (bg < i → FairOn l M an bn rF gt U))
      case atStart => exact ⟨0, 0, S, fun _ => 0, by omega, rfl, rfl, H0.out.1, H0.out.2.2.1.more (by have := HN.out; omega), H0.out.2.2.2.1, H0.out.2.2.2.2, H0.out.2.1, fun j h0 h1 => ⟨Int.le_refl _, by show (0 : Int) ≤ _; omega⟩, fun h => by omega⟩
      case round =>
        obtain ⟨i, M, U, gt, hi, rfl, rfl, hfam, hok, hst, hkin, hg8, hbd, hfair⟩ := hrel
        have HF := Lib.hid (And.intro hfam (And.intro hok (And.intro hst (And.intro hkin (And.intro hg8 (And.intro hbd hfair))))))
        clear hfam hok hst hkin hg8 hbd hfair H0
        obtain ⟨wp, rfl⟩ : ∃ x : World, x = wr := ⟨_, rfl⟩
        by_cases hlt : i < n
        · obtain ⟨gm, rfl⟩ : ∃ gm, gk = gm + 1 := ⟨gk - 1, by omega⟩
          have HAO := Lib.hid ((HA.out.below HB.out).below HF.out.1.below)
          obtain ⟨bA, off, rfl, hbA⟩ := HAO.out.addr (by omega)
          obtain ⟨c0, c1, c2, c3⟩ := HAO.out.cells bA off rfl i hlt
          have p0 : (0 : Int) ≤ (i : Int) := by omega
          have p1 : (i : Int) < ((i + (gm + 1) : Nat) : Int) := by omega
          have p1' : (i : Int) < (n : Int) := by omega
          have HLT := Lib.hid hlt
          have HII := Lib.hid hi
          have e5 : wrap64 ((i : Int) + 1) = ((i + 1 : Nat) : Int) := by have := HN.out; unfold wrap64; omega
          obtain ⟨k, hk⟩ : ∃ z, K i = z := ⟨_, rfl⟩
          obtain ⟨id, hid⟩ : ∃ z, I i = z := ⟨_, rfl⟩
          obtain ⟨s, hs⟩ : ∃ z, P i = z := ⟨_, rfl⟩
          obtain ⟨b, hb⟩ : ∃ z, Q i = z := ⟨_, rfl⟩
          rw [hk] at c0
          rw [hid] at c1
          rw [hs] at c2
          rw [hb] at c3
          have HWI : Hid (0 ≤ b ∧ b ≤ 65535) := by have h2 := HW.out.2 i hlt; rw [hb] at h2; exact h2
          clear hlt hk hid hs hb
          go_upto_if 82 with (fail)
          have hbt : Below wp.heap.size wp (wp.alloc (.cells #[.int .u8 k, .int .i64 id, .int .u16 s, .int .u16 b] 56)) := by go_grown
          have bT := Blk.new wp 56 #[.int .u8 k, .int .i64 id, .int .u16 s, .int .u16 b]
          obtain ⟨wu, hwu⟩ : ∃ z, wp.alloc (.cells #[.int .u8 k, .int .i64 id, .int .u16 s, .int .u16 b] 56) = z := ⟨_, rfl⟩
          rw [hwu] at hbt bT ⊢
          obtain ⟨TB, hTB⟩ : ∃ z, wp.heap.size = z := ⟨_, rfl⟩
          rw [hTB] at bT ⊢
          have H1 := Lib.hid (And.intro (HF.out.1.next hbt) (And.intro (HF.out.2.2.2.2.1.next hbt) bT))
          clear hbt bT hwu hTB c0 c1 c2 c3
          go_cut [] (fun wc => ∃ (U1 : FS) (g1 : Int → Int), FamIn ws.heap.size ws wc f mb U1 ∧ U1.ok (8 + 3 * i + 2) ∧ Strt l M i U1 ∧ Kin n0 rF U1 ∧ G8 wc GB g1 ∧ (∀ j : Int, 0 ≤ j → j < 8 → 0 ≤ g1 j ∧ g1 j ≤ 384000 * i) ∧ (bg ≤ i → FairOn l M an bn rF g1 U1) ∧ Blk wc TB 56 #[.int .u8 k, .int .i64 id, .int .u16 s, .int .u16 b])
          case first =>
            by_cases hb : i = bg
            · have q1 : ((i : Int) == (bg : Int)) = true := beq_iff_eq.2 (by omega)
              have q2 : decide ((i : Int) = (bg : Int)) = true := decide_eq_true (by omega)
              have q3 : decide (i = bg) = true := decide_eq_true hb
              have q4 : (i == bg) = true := beq_iff_eq.2 hb
              have HBI := Lib.hid hb
              have WA := Lib.hid (fi_wake (an : Int) H1.out.1 HF.out.2.1 (by have := HN.out; have := HLT.out; omega))
              clear hb
              go_wp2_with fail
              with_reducible refine (WA.out).mono ?_
              rintro e w1 ⟨rfl, hf1, hs1⟩
              have WB := Lib.hid (fi_wake (bn : Int) hf1 (HF.out.2.1.wake (an : Int)) (by have := HN.out; have := HLT.out; omega))
              have HS1 := Lib.hid hs1
              clear hf1 hs1 WA
              go_wp2_with fail
              with_reducible refine (WB.out).mono ?_
              rintro e w2 ⟨rfl, hf2, hs2⟩
              have hg2 := (H1.out.2.1.spare HS1.out).spare hs2
              have ht2 := hs2 TB _ _ (by decide) (by decide) (by decide) (by decide) (HS1.out TB _ _ (by decide) (by decide) (by decide) (by decide) H1.out.2.2)
              obtain ⟨x0, y0⟩ := hg2.cell (j := 0) (by decide)
              obtain ⟨x1, y1⟩ := hg2.cell (j := 1) (by decide)
              obtain ⟨x2, y2⟩ := hg2.cell (j := 2) (by decide)
              obtain ⟨x3, y3⟩ := hg2.cell (j := 3) (by decide)
              obtain ⟨x4, y4⟩ := hg2.cell (j := 4) (by decide)
              obtain ⟨x5, y5⟩ := hg2.cell (j := 5) (by decide)
              obtain ⟨x6, y6⟩ := hg2.cell (j := 6) (by decide)
              obtain ⟨x7, y7⟩ := hg2.cell (j := 7) (by decide)
              have H2 := Lib.hid (And.intro hf2 (And.intro hg2 ht2))
              clear hf2 hs2 hg2 ht2 WB
              go_wp2_with fail
              obtain ⟨wz, hwz⟩ : ∃ z, zero8 w2 GB = z := ⟨_, rfl⟩
              have hzz := hwz
              unfold zero8 at hzz
              rw [hzz]
              clear x0 x1 x2 x3 x4 x5 x6 x7 y0 y1 y2 y3 y4 y5 y6 y7 hzz
              go_meet
              have ok1 := HF.out.2.1.wake (an : Int)
              have ok2 := ok1.wake (bn : Int)
              have st1 := HF.out.2.2.1.wake HF.out.2.1 (an : Int)
              have st2 := st1.wake ok1 (bn : Int)
              have kn2 := (HF.out.2.2.2.1.wake (an : Int)).wake (bn : Int)
              have hfr := zero8_fr w2 GB
              have hz := H2.out.2.1.zero
              rw [hwz] at hfr hz
              obtain ⟨cs8, h8⟩ := H2.out.2.1.blk
              have aw1 := (isAwake_wake (HF.out.2.2.2.1.all (an : Int) (by omega) (by have := HAB.out; omega))).wake (bn : Int)
              have aw2 := isAwake_wake ((HF.out.2.2.2.1.wake (an : Int)).all (bn : Int) (by omega) (by have := HAB.out; omega))
              exact ⟨(U.wake an).wake bn, fun _ => 0, H2.out.1.store h8 (by decide) (by decide) (by decide) (by decide) (by decide) (by decide) hfr HGB.out, ok2, st2, kn2, hz, fun j h0 h1 => ⟨Int.le_refl _, by show (0 : Int) ≤ _; omega⟩, fun _ => fair_begin st2 ok2 kn2 aw1 aw2, H2.out.2.2.fr hfr (Blk.ne_of_type H2.out.2.2 h8 (by decide))⟩
            · have q1 : ((i : Int) == (bg : Int)) = false := beq_eq_false_iff_ne.2 (by omega)
              have q2 : decide ((i : Int) = (bg : Int)) = false := decide_eq_false (by omega)
              have q3 : decide (i = bg) = false := decide_eq_false hb
              have q4 : (i == bg) = false := beq_eq_false_iff_ne.2 hb
              have HBI := Lib.hid hb
              clear hb
              go_wp2_with fail
              go_meet
              exact ⟨U, gt, H1.out.1, HF.out.2.1.more (by omega), HF.out.2.2.1, HF.out.2.2.2.1, H1.out.2.1, HF.out.2.2.2.2.2.1, fun h => HF.out.2.2.2.2.2.2 (by have := HBI.out; omega), H1.out.2.2⟩
          case rest =>
            as_aux_lemma =>
              obtain ⟨U1, g1, hf1, hok1, hst1, hkin1, hg1, hbd1, hfair1, hbt1⟩ := hcut
              obtain ⟨w1, rfl⟩ : ∃ x : World, x = wc := ⟨_, rfl⟩
              have H2 := Lib.hid (And.intro hf1 (And.intro hok1 (And.intro hst1 (And.intro hkin1 (And.intro hg1 (And.intro hbd1 (And.intro hfair1 hbt1)))))))
              have HT2 := Lib.hid hbt1
              have x0 := hbt1.get 0 rfl
              have x1 := hbt1.get 1 rfl
              have nz1 : ((n0 : Int) == 0) = false := beq_eq_false_iff_ne.2 (by have := HN.out; omega)
              have nz2 : ¬ (n0 : Int) = 0 := by have := HN.out; omega
              have nz3 : ¬ n0 = 0 := by have := HN.out; omega
              obtain ⟨id8, hid8⟩ : ∃ z, id.tmod (n0 : Int) = z := ⟨_, rfl⟩
              have hb8 : -8 < id8 ∧ id8 < 8 := by
                have h1 := Int.tmod_lt_of_pos id (show (0 : Int) < n0 by have := HN.out; omega)
                have h2 := Int.lt_tmod_of_pos id (show (0 : Int) < n0 by have := HN.out; omega)
                have := HN.out
                omega
              have w81 : IntKind.i64.wrap id8 = id8 := by rw [IntKind.wrap_i64]; omega
              have w82 : wrap64 id8 = id8 := by unfold wrap64; omega
              clear hf1 hok1 hst1 hkin1 hg1 hbd1 hfair1 hbt1 H1 HF hb8
              by_cases hneg : id8 < 0
              · have d1 : decide (id8 < 0) = true := decide_eq_true hneg
                clear hneg
                go_wp2_with fail
                go_ret
                exact ⟨by simp, HB.out.trans (H2.out.1.below.mono HB.out.size)⟩
              have d1 : decide (id8 < 0) = false := decide_eq_false hneg
              clear hneg
              go_upto_region 28 with (fail)
              clear x1 nz1 nz2 nz3 hid8 w81 w82 d1
              go_cut [22] (fun mv wc => ∃ mine : Bool, mv = .bool mine ∧ w1 = wc ∧ (mine = false → bg ≤ i → id8 ≠ (an : Int) ∧ id8 ≠ (bn : Int)))
              case first =>
                by_cases q : bg ≤ i
                · have q1 : decide ((bg : Int) ≤ (i : Int)) = true := decide_eq_true (by omega)
                  have q2 : decide (bg ≤ i) = true := decide_eq_true q
                  clear q
                  by_cases qa : id8 = (an : Int)
                  · have q3 : (id8 == (an : Int)) = true := beq_iff_eq.2 qa
                    have q4 : decide (id8 = (an : Int)) = true := decide_eq_true qa
                    clear qa
                    go_wp2_with fail
                    go_meet
                    exact ⟨true, rfl, rfl, fun h => by cases h⟩
                  · have q3 : (id8 == (an : Int)) = false := beq_eq_false_iff_ne.2 qa
                    have q4 : decide (id8 = (an : Int)) = false := decide_eq_false qa
                    have HQA := Lib.hid qa
                    clear qa
                    by_cases qb : id8 = (bn : Int)
                    · have q5 : (id8 == (bn : Int)) = true := beq_iff_eq.2 qb
                      have q6 : decide (id8 = (bn : Int)) = true := decide_eq_true qb
                      clear qb
                      go_wp2_with fail
                      go_meet
                      exact ⟨true, rfl, rfl, fun h => by cases h⟩
                    · have q5 : (id8 == (bn : Int)) = false := beq_eq_false_iff_ne.2 qb
                      have q6 : decide (id8 = (bn : Int)) = false := decide_eq_false qb
                      have HQB := Lib.hid qb
                      clear qb
                      go_wp2_with fail
                      go_meet
                      exact ⟨false, rfl, rfl, fun _ _ => ⟨HQA.out, HQB.out⟩⟩
                · have q1 : decide ((bg : Int) ≤ (i : Int)) = false := decide_eq_false (by omega)
                  have q2 : decide (bg ≤ i) = false := decide_eq_false q
                  have HQ := Lib.hid q
                  clear q
                  go_wp2_with fail
                  go_meet
                  exact ⟨false, rfl, rfl, fun _ h => absurd h HQ.out⟩
              case rest =>
                obtain ⟨mine, rfl, rfl, hmine⟩ := hcut
                have HMI := Lib.hid hmine
                clear hmine
                obtain ⟨r, hr⟩ : ∃ r, k.tmod 5 = r := ⟨_, rfl⟩
                have x0 := HT2.out.get 0 rfl
                go_upto_region 29 with (fail)
                go_cut [116] (fun bv wc => ∃ b2 : Bool, bv = .bool b2 ∧ w1 = wc)
                case first =>
                  by_cases h2 : r = 2
                  · subst h2
                    cases mine with
                    | true =>
                      go_wp2_with fail
                      go_meet
                      exact ⟨false, rfl, rfl⟩
                    | false =>
                      go_wp2_with fail
                      go_meet
                      exact ⟨true, rfl, rfl⟩
                  · have n2 : (r == 2) = false := beq_eq_false_iff_ne.2 h2
                    have n2' : decide (r = 2) = false := decide_eq_false h2
                    clear h2
                    go_wp2_with fail
                    go_meet
                    exact ⟨false, rfl, rfl⟩
                case rest =>
                  as_aux_lemma =>
                    obtain ⟨b2, rfl, rfl⟩ := hcut
                    have x0 := HT2.out.get 0 rfl
                    go_upto_if 116 with (fail)
                    go_cut [] (fun wc => ∃ U2, FamIn ws.heap.size ws wc f mb U2 ∧ U2.ok (8 + 3 * i + 3) ∧ Strt l M i U2 ∧ Kin n0 rF U2 ∧ G8 wc GB g1 ∧ (bg ≤ i → FairOn l M an bn rF g1 U2) ∧ Blk wc TB 56 #[.int .u8 k, .int .i64 id, .int .u16 s, .int .u16 b])
                    case first =>
                      cases b2 with
                      | false =>
                        go_wp2_with fail
                        go_meet
                        exact ⟨U1, H2.out.1, H2.out.2.1.more (by omega), H2.out.2.2.1, H2.out.2.2.2.1, H2.out.2.2.2.2.1, H2.out.2.2.2.2.2.2.1, H2.out.2.2.2.2.2.2.2⟩
                      | true =>
                        have WK := Lib.hid (fi_wake id8 H2.out.1 H2.out.2.1 (by have := HN.out; have := HLT.out; omega))
                        go_wp2_with fail
                        with_reducible refine (WK.out).mono ?_
                        rintro e w2 ⟨rfl, hf2, hs2⟩
                        have HX := Lib.hid (And.intro hf2 hs2)
                        clear hf2 hs2 WK
                        go_wp2_with fail
                        go_meet
                        exact ⟨U1.wake id8, HX.out.1, H2.out.2.1.wake id8, H2.out.2.2.1.wake H2.out.2.1 id8, H2.out.2.2.2.1.wake id8, H2.out.2.2.2.2.1.spare HX.out.2, fun h => (H2.out.2.2.2.2.2.2.1 h).wake id8, HX.out.2 TB _ _ (by decide) (by decide) (by decide) (by decide) H2.out.2.2.2.2.2.2.2⟩
                    case rest =>
                      obtain ⟨U2, hf2, hok2, hst2, hkin2, hg2, hfair2, hbt2⟩ := hcut
                      obtain ⟨w2, rfl⟩ : ∃ x : World, x = wc := ⟨_, rfl⟩
                      have HBD := Lib.hid H2.out.2.2.2.2.2.1
                      have H3 := Lib.hid (And.intro hf2 (And.intro hok2 (And.intro hst2 (And.intro hkin2 (And.intro hg2 (And.intro hfair2 hbt2))))))
                      have x0 := hbt2.get 0 rfl
                      clear hf2 hok2 hst2 hkin2 hg2 hfair2 hbt2 H2 HT2
                      have HT3 := Lib.hid H3.out.2.2.2.2.2.2
                      go_upto_region 31 with (fail)
                      go_cut [127] (fun bv wc => ∃ b3 : Bool, bv = .bool b3 ∧ w2 = wc ∧ (b3 = true → mine = false))
                      case first =>
                        by_cases h3 : r = 3
                        · subst h3
                          cases mine with
                          | true =>
                            go_wp2_with fail
                            go_meet
                            exact ⟨false, rfl, rfl, fun h => by cases h⟩
                          | false =>
                            go_wp2_with fail
                            go_meet
                            exact ⟨true, rfl, rfl, by simp⟩
                        · have n3 : (r == 3) = false := beq_eq_false_iff_ne.2 h3
                          have n3' : decide (r = 3) = false := decide_eq_false h3
                          clear h3
                          go_wp2_with fail
                          go_meet
                          exact ⟨false, rfl, rfl, fun h => by cases h⟩
                      case rest =>
                        obtain ⟨b3, rfl, rfl, hb3⟩ := hcut
                        have HB3 := Lib.hid hb3
                        clear hb3
                        have x0 := HT3.out.get 0 rfl
                        go_upto_if 127 with (fail)
                        go_cut [] (fun wc => ∃ U3, FamIn ws.heap.size ws wc f mb U3 ∧ U3.ok (8 + 3 * i + 3) ∧ Strt l M i U3 ∧ Kin n0 rF U3 ∧ G8 wc GB g1 ∧ (bg ≤ i → FairOn l M an bn rF g1 U3) ∧ Blk wc TB 56 #[.int .u8 k, .int .i64 id, .int .u16 s, .int .u16 b])
                        case first =>
                          cases b3 with
                          | false =>
                            go_wp2_with fail
                            go_meet
                            exact ⟨U2, H3.out⟩
                          | true =>
                            have SLP := Lib.hid (fi_sleep id8 H3.out.1)
                            go_wp2_with fail
                            with_reducible refine (SLP.out).mono ?_
                            rintro e w3 ⟨rfl, hf3, hs3⟩
                            have HX := Lib.hid (And.intro hf3 hs3)
                            clear hf3 hs3 SLP
                            go_wp2_with fail
                            go_meet
                            exact ⟨U2.sleep id8, HX.out.1, H3.out.2.1.sleep id8, H3.out.2.2.1.sleep H3.out.2.1 id8, H3.out.2.2.2.1.sleep id8, H3.out.2.2.2.2.1.spare HX.out.2, fun h => (H3.out.2.2.2.2.2.1 h).sleep (HMI.out (HB3.out (by first | rfl | trivial)) h).1 (HMI.out (HB3.out (by first | rfl | trivial)) h).2, HX.out.2 TB _ _ (by decide) (by decide) (by decide) (by decide) H3.out.2.2.2.2.2.2⟩
                        case rest =>
                          as_aux_lemma =>
                            obtain ⟨U3, hf3, hok3, hst3, hkin3, hg3, hfair3, hbt3⟩ := hcut
                            obtain ⟨w3, rfl⟩ : ∃ x : World, x = wc := ⟨_, rfl⟩
                            have H4 := Lib.hid (And.intro hf3 (And.intro hok3 (And.intro hst3 (And.intro hkin3 (And.intro hg3 (And.intro hfair3 hbt3))))))
                            clear hf3 hok3 hst3 hkin3 hg3 hfair3 hbt3 H3 HT3 HMI HB3
                            go_wp2_with fail
                            with_reducible refine (fi_ids H4.out.1 H4.out.2.1 (by have := HN.out; have := HLT.out; omega)).mono ?_
                            rintro e wi ⟨v, D, rfl, hL, hown, hbi⟩
                            obtain ⟨A', c', rfl, -, hrow⟩ := row_form hown
                            have HI := Lib.hid (And.intro (H4.out.1.next hbi) (And.intro hL (And.intro (H4.out.2.2.2.2.1.next hbi) (H4.out.2.2.2.2.2.2.next hbi))))
                            have HROW := Lib.hid hrow
                            obtain ⟨m, hm⟩ : ∃ m, D.length = m := ⟨_, rfl⟩
                            have HLN := Lib.hid hm
                            rw [hm]
                            clear hL hown hbi hrow hm
                            rcases Nat.eq_zero_or_pos m with hz | hz
                            · subst hz
                              go_wp2_with fail
                              go_roundg gm
                              case rel => exact ⟨i + 1, M, U3, g1, by have := HII.out; omega, by go_num, rfl, HI.out.1, H4.out.2.1, H4.out.2.2.1.more (Int.le_refl _) H4.out.2.2.1.m1 (Nat.le_succ _) (by have := HN.out; have := HLT.out; omega), H4.out.2.2.2.1, HI.out.2.2.1, fun j h0 h1 => ⟨(HBD.out j h0 h1).1, by have := (HBD.out j h0 h1).2; omega⟩, fun h => H4.out.2.2.2.2.2.1 (by omega)⟩
                              case measure => omega
                            · have hm := HLN.out
                              obtain ⟨g', cs, rfl, -, hbg, hcs⟩ := HROW.out (by omega)
                              have hv := H4.out.2.1.vok
                              have f0 := (ids_first HI.out.2.1 hv (j := 0) (by omega)).1 rfl
                              have i0 := HI.out.2.1.1.subset (List.getElem_mem (show 0 < D.length by omega))
                              have q0 : cs[0]? = some (.int .i64 (D[0]'(by omega)).id) := hcs 0 _ (by rw [List.getElem?_map, List.getElem?_eq_getElem (by omega)]; rfl)
                              generalize (D[0]'(by omega)) = y0 at f0 i0 q0
                              have hin0 := (mem_ups.1 i0).1
                              have hk0 := H4.out.2.2.2.1.mem y0 hin0
                              obtain ⟨j, hj⟩ : ∃ j : Nat, y0.id = (j : Int) := ⟨y0.id.toNat, by have := hk0.1; omega⟩
                              rw [hj] at q0
                              have hjn : j < n0 := by have := hk0.2.1; omega
                              have hj8 : j < 8 := by have := HN.out; omega
                              have hfy : fnd (j : Int) U3.L = some y0 := by rw [← hj]; exact fnd_of_mem H4.out.1.fam.ids hin0
                              have gb := grains_bounds HWI.out.1
                              have GR := Lib.hid (fun w => grains_any k id s b w HWI.out.1 HWI.out.2)
                              obtain ⟨gg, egg⟩ : ∃ z, grainsN b = z := ⟨_, rfl⟩
                              rw [egg] at GR gb
                              have wgg : Word gg := ⟨by omega, by omega⟩
                              have GA := Lib.hid (fun w' (hb : Below wi.heap.size wi w') => fi_gain (j : Int) gg (HI.out.1.next hb) H4.out.2.1 (by have := HN.out; have := HLT.out; omega) wgg)
                              have st4 := H4.out.2.2.1.gain H4.out.2.1 i0 (by rw [hj]; exact hfy) f0 (show 0 ≤ gg by omega) gb.2 (by have := HN.out; have := HLT.out; omega)
                              rw [hj] at st4
                              have ok4 := H4.out.2.1.gain (j : Int) wgg
                              have kn4 := H4.out.2.2.2.1.gain (j : Int) gg
                              have hT4 : ∀ x, fnd (j : Int) U3.L = some x → gainT x gg = x.T + gg := fun x hx => by
                                have h1 := (H4.out.2.2.1.mem x (fnd_mem hx).1).2
                                have := HLT.out
                                have := HN.out
                                unfold gainT
                                omega
                              have fr4 : bg ≤ i → FairOn l (max M gg) an bn rF (fun k => if k = (j : Int) then g1 (j : Int) + gg else g1 k) (U3.gain (j : Int) gg) := fun h => ((H4.out.2.2.2.2.2.1 h).gain hT4).more HL1.out (by omega)
                              obtain ⟨M', hM'⟩ : ∃ z, max M gg = z := ⟨_, rfl⟩
                              rw [hM'] at st4 fr4
                              obtain ⟨gj, hgj⟩ : ∃ z, g1 (j : Int) = z := ⟨_, rfl⟩
                              have hgb := HBD.out (j : Int) (by omega) (by omega)
                              rw [hgj] at hgb fr4
                              obtain ⟨gn, hgn⟩ : ∃ z, gj + gg = z := ⟨_, rfl⟩
                              rw [hgn] at fr4
                              obtain ⟨g4, hg4⟩ : ∃ g : Int → Int, (fun k => if k = (j : Int) then gn else g1 k) = g := ⟨_, rfl⟩
                              rw [hg4] at fr4
                              have HG4 := Lib.hid hg4
                              have HN4 := Lib.hid (And.intro st4 (And.intro ok4 (And.intro kn4 fr4)))
                              have HGN := Lib.hid (And.intro hgj (And.intro hgn (And.intro gb hgb)))
                              have HY := Lib.hid (And.intro hbg q0)
                              have HM := Lib.hid hM'
                              have HJ8 := Lib.hid hj8
                              have k0 : decide ((0 : Int) < (m : Int)) = true := decide_eq_true (by omega)
                              have k1 : ((m : Int) == 0) = false := beq_eq_false_iff_ne.2 (by omega)
                              have k2 : decide (m = 0) = false := decide_eq_false (by omega)
                              have k3 : (m == 0) = false := beq_eq_false_iff_ne.2 (by omega)
                              have k4 : (0 : Int) < (m : Int) := by omega
                              have k4' : 0 < m := by omega
                              have k5 : decide ((j : Int) < 0) = false := decide_eq_false (by omega)
                              have k6 : decide ((n0 : Int) ≤ (j : Int)) = false := decide_eq_false (by omega)
                              have k7 : decide (n0 ≤ j) = false := decide_eq_false (by omega)
                              have k8 : (j : Int) < 8 := by omega
                              have k9 : (0 : Int) ≤ (j : Int) := by omega
                              have k10 : IntKind.u64.wrap (gj + gg) = gn := by have := HLT.out; have := HN.out; rw [IntKind.wrap_u64]; omega
                              clear hm hbg hcs hv f0 i0 q0 hin0 hk0 hj hjn hfy gb egg wgg st4 ok4 kn4 hT4 fr4 hM' hgj hgb hgn hg4
                              go_upto_region 35 with (fail)
                              have KP : Hid (∀ w', Below (wi.heap.size) wi w' → (w'.cell? ⟨g', 0, none⟩ = some (.int .i64 (j : Int)) ∧ w'.cell? ⟨TB, 0, none⟩ = some (.int .u8 k) ∧ w'.cell? ⟨TB, 1, none⟩ = some (.int .i64 id) ∧ w'.cell? ⟨TB, 2, none⟩ = some (.int .u16 s) ∧ w'.cell? ⟨TB, 3, none⟩ = some (.int .u16 b)) ∧ Below (wi.heap.size) wi w') := fun w' hb => ⟨⟨(HY.out.1.next hb).get 0 HY.out.2, (HI.out.2.2.2.next hb).get 0 rfl, (HI.out.2.2.2.next hb).get 1 rfl, (HI.out.2.2.2.next hb).get 2 rfl, (HI.out.2.2.2.next hb).get 3 rfl⟩, hb⟩
                              refine wp_region_noPanic ?_
                              refine wp_region_Z [6] (fun w' => (w'.cell? ⟨g', 0, none⟩ = some (.int .i64 (j : Int)) ∧ w'.cell? ⟨TB, 0, none⟩ = some (.int .u8 k) ∧ w'.cell? ⟨TB, 1, none⟩ = some (.int .i64 id) ∧ w'.cell? ⟨TB, 2, none⟩ = some (.int .u16 s) ∧ w'.cell? ⟨TB, 3, none⟩ = some (.int .u16 b)) ∧ Below (wi.heap.size) wi w') (by kernel_rfl) (KP.out _ (below_of_drew ((Below.refl wi.heap.size wi)))) (fun hH => ?_)
                              have hbR := below_of_drew ((Below.refl wi.heap.size wi))
                              first | (refine wpAnyZ_takeC (i := 0) (v := undef) rfl ?_ ?_ ?_ ?_ (fun _ _ _ h => h) ?_ ?_ ?_; kernel_rfl; kernel_rfl; kernel_rfl; kernel_rfl; exact Or.inr ⟨by rfl, rfl⟩; exact hH) | (refine wpAnyZ_takeC (i := 0) (v := ?_) rfl ?_ ?_ ?_ ?_ (fun _ _ _ h => h) ?_ ?_ ?_; rotate_left; kernel_rfl; kernel_rfl; kernel_rfl; kernel_rfl; (focus (refine Or.inl ⟨by rfl, ?_⟩; intro w' hSw; (try dsimp only at hSw); go_simp)); exact hH) | (refine wpAnyZ_takeC (i := 0) (v := ?_) rfl ?_ ?_ ?_ ?_ (fun _ _ _ h => h) ?_ ?_ ?_; rotate_left; kernel_rfl; kernel_rfl; kernel_rfl; kernel_rfl; (focus (refine Or.inl ⟨by rfl, ?_⟩; intro w' hSw; (try dsimp only at hSw); go_simp; with_reducible rfl)); exact hH)
                              try simp only [Act.put, List.getElem_toArray, List.getElem_cons_succ, List.getElem_cons_zero, List.setIfInBounds_toArray, List.set_cons_zero, List.set_cons_succ]
                              first | (refine wpAnyZ_takeC (i := 1) (v := undef) rfl ?_ ?_ ?_ ?_ (fun _ _ _ h => h) ?_ ?_ ?_; kernel_rfl; kernel_rfl; kernel_rfl; kernel_rfl; exact Or.inr ⟨by rfl, rfl⟩; exact hH) | (refine wpAnyZ_takeC (i := 1) (v := ?_) rfl ?_ ?_ ?_ ?_ (fun _ _ _ h => h) ?_ ?_ ?_; rotate_left; kernel_rfl; kernel_rfl; kernel_rfl; kernel_rfl; (focus (refine Or.inl ⟨by rfl, ?_⟩; intro w' hSw; (try dsimp only at hSw); go_simp)); exact hH) | (refine wpAnyZ_takeC (i := 1) (v := ?_) rfl ?_ ?_ ?_ ?_ (fun _ _ _ h => h) ?_ ?_ ?_; rotate_left; kernel_rfl; kernel_rfl; kernel_rfl; kernel_rfl; (focus (refine Or.inl ⟨by rfl, ?_⟩; intro w' hSw; (try dsimp only at hSw); go_simp; with_reducible rfl)); exact hH)
                              try simp only [Act.put, List.getElem_toArray, List.getElem_cons_succ, List.getElem_cons_zero, List.setIfInBounds_toArray, List.set_cons_zero, List.set_cons_succ]
                              first | (refine wpAnyZ_takeC (i := 2) (v := undef) rfl ?_ ?_ ?_ ?_ (fun _ _ _ h => h) ?_ ?_ ?_; kernel_rfl; kernel_rfl; kernel_rfl; kernel_rfl; exact Or.inr ⟨by rfl, rfl⟩; exact hH) | (refine wpAnyZ_takeC (i := 2) (v := ?_) rfl ?_ ?_ ?_ ?_ (fun _ _ _ h => h) ?_ ?_ ?_; rotate_left; kernel_rfl; kernel_rfl; kernel_rfl; kernel_rfl; (focus (refine Or.inl ⟨by rfl, ?_⟩; intro w' hSw; (try dsimp only at hSw); go_simp)); exact hH) | (refine wpAnyZ_takeC (i := 2) (v := ?_) rfl ?_ ?_ ?_ ?_ (fun _ _ _ h => h) ?_ ?_ ?_; rotate_left; kernel_rfl; kernel_rfl; kernel_rfl; kernel_rfl; (focus (refine Or.inl ⟨by rfl, ?_⟩; intro w' hSw; (try dsimp only at hSw); go_simp; with_reducible rfl)); exact hH)
                              try simp only [Act.put, List.getElem_toArray, List.getElem_cons_succ, List.getElem_cons_zero, List.setIfInBounds_toArray, List.set_cons_zero, List.set_cons_succ]
                              first | (refine wpAnyZ_takeC (i := 3) (v := undef) rfl ?_ ?_ ?_ ?_ (fun _ _ _ h => h) ?_ ?_ ?_; kernel_rfl; kernel_rfl; kernel_rfl; kernel_rfl; exact Or.inr ⟨by rfl, rfl⟩; exact hH) | (refine wpAnyZ_takeC (i := 3) (v := ?_) rfl ?_ ?_ ?_ ?_ (fun _ _ _ h => h) ?_ ?_ ?_; rotate_left; kernel_rfl; kernel_rfl; kernel_rfl; kernel_rfl; (focus (refine Or.inl ⟨by rfl, ?_⟩; intro w' hSw; (try dsimp only at hSw); go_simp)); exact hH) | (refine wpAnyZ_takeC (i := 3) (v := ?_) rfl ?_ ?_ ?_ ?_ (fun _ _ _ h => h) ?_ ?_ ?_; rotate_left; kernel_rfl; kernel_rfl; kernel_rfl; kernel_rfl; (focus (refine Or.inl ⟨by rfl, ?_⟩; intro w' hSw; (try dsimp only at hSw); go_simp; with_reducible rfl)); exact hH)
                              try simp only [Act.put, List.getElem_toArray, List.getElem_cons_succ, List.getElem_cons_zero, List.setIfInBounds_toArray, List.set_cons_zero, List.set_cons_succ]
                              first | (refine wpAnyZ_takeC (i := 4) (v := undef) rfl ?_ ?_ ?_ ?_ (fun _ _ _ h => h) ?_ ?_ ?_; kernel_rfl; kernel_rfl; kernel_rfl; kernel_rfl; exact Or.inr ⟨by rfl, rfl⟩; exact hH) | (refine wpAnyZ_takeC (i := 4) (v := ?_) rfl ?_ ?_ ?_ ?_ (fun _ _ _ h => h) ?_ ?_ ?_; rotate_left; kernel_rfl; kernel_rfl; kernel_rfl; kernel_rfl; (focus (refine Or.inl ⟨by rfl, ?_⟩; intro w' hSw; (try dsimp only at hSw); go_simp)); exact hH) | (refine wpAnyZ_takeC (i := 4) (v := ?_) rfl ?_ ?_ ?_ ?_ (fun _ _ _ h => h) ?_ ?_ ?_; rotate_left; kernel_rfl; kernel_rfl; kernel_rfl; kernel_rfl; (focus (refine Or.inl ⟨by rfl, ?_⟩; intro w' hSw; (try dsimp only at hSw); go_simp; with_reducible rfl)); exact hH)
                              try simp only [Act.put, List.getElem_toArray, List.getElem_cons_succ, List.getElem_cons_zero, List.setIfInBounds_toArray, List.set_cons_zero, List.set_cons_succ]
                              refine wpAnyZ_ready (rs := [5]) (by kernel_rfl) (by simp) ?_
                              refine (AllReadyZ.cons rfl (fun K hK => ?_) AllReadyZ.nil)
                              go_simp
                              with_reducible refine (GR.out _).mono ?_
                              rintro e w1 ⟨rfl, hb1'⟩
                              have hb1 : Below (wi.heap.size) wi w1 := below_next hH.2 hb1'
                              try go_wp2_with fail
                              have hH1 := KP.out _ hb1
                              refine hK.out _ _ (fun _ => hH1) ?_
                              clear hK K hH
                              have hH := hH1
                              clear hH1
                              try simp only [Act.put, List.getElem_toArray, List.getElem_cons_succ, List.getElem_cons_zero, List.setIfInBounds_toArray, List.set_cons_zero, List.set_cons_succ]
                              refine wpAnyZ_ready (rs := [6]) (by kernel_rfl) (by simp) ?_
                              refine (AllReadyZ.cons rfl (fun K hK => ?_) AllReadyZ.nil)
                              go_simp
                              with_reducible refine (GA.out _ hb1).mono ?_
                              rintro e wj ⟨rfl, hf2, hs2⟩
                              have HG := Lib.hid (And.intro hf2 (And.intro hs2 hb1))
                              clear hf2 hs2
                              refine hK.out _ _ (fun h => absurd (by simp) h) ?_
                              clear hK K
                              try simp only [Act.put, List.getElem_toArray, List.getElem_cons_succ, List.getElem_cons_zero, List.setIfInBounds_toArray, List.set_cons_zero, List.set_cons_succ]
                              refine wpAnyZ_done (by kernel_rfl) ?_ _
                              refine NoPanic.normal ?_
                              skip
                              try clear hH
                              have hsj : Spares wi wj := (Spares.of_below HG.out.2.2).trans HG.out.2.1
                              have bgj := hsj g' _ cs (by decide) (by decide) (by decide) (by decide) HY.out.1
                              have btj := hsj TB _ _ (by decide) (by decide) (by decide) (by decide) HI.out.2.2.2
                              have HJ := Lib.hid (And.intro bgj (And.intro btj (HI.out.2.2.1.spare hsj)))
                              have x0 := btj.get 0 rfl
                              have x1 := btj.get 1 rfl
                              have x2 := btj.get 2 rfl
                              have x3 := btj.get 3 rfl
                              clear hsj bgj btj KP
                              go_wp2_with fail
                              with_reducible refine (GR.out wj).mono ?_
                              rintro e w5 ⟨rfl, hb5⟩
                              have H5 := Lib.hid (And.intro (HG.out.1.next hb5) (And.intro (HJ.out.1.next hb5) (And.intro (HJ.out.2.1.next hb5) (HJ.out.2.2.next hb5))))
                              have x0 := H5.out.2.1.get 0 HY.out.2
                              clear hb5 x1 x2 x3
                              go_upto_region 39 with (fail)
                              rw [HM.out]
                              have KQ : Hid (∀ w', Below (w5.heap.size) w5 w' → (w'.cell? ⟨g', 0, none⟩ = some (.int .i64 (j : Int)) ∧ w'.cell? ⟨TB, 0, none⟩ = some (.int .u8 k) ∧ w'.cell? ⟨TB, 1, none⟩ = some (.int .i64 id) ∧ w'.cell? ⟨TB, 2, none⟩ = some (.int .u16 s) ∧ w'.cell? ⟨TB, 3, none⟩ = some (.int .u16 b) ∧ w'.cell? ⟨GB, j, none⟩ = some (.int .u64 gj)) ∧ Below (w5.heap.size) w5 w') := fun w' hb => ⟨⟨(H5.out.2.1.next hb).get 0 HY.out.2, (H5.out.2.2.1.next hb).get 0 rfl, (H5.out.2.2.1.next hb).get 1 rfl, (H5.out.2.2.1.next hb).get 2 rfl, (H5.out.2.2.1.next hb).get 3 rfl, (by rw [← HGN.out.1]; exact ((H5.out.2.2.2.next hb).cell HJ8.out).1)⟩, hb⟩
                              refine wp_region_noPanic ?_
                              refine wp_region_Z [12] (fun w' => (w'.cell? ⟨g', 0, none⟩ = some (.int .i64 (j : Int)) ∧ w'.cell? ⟨TB, 0, none⟩ = some (.int .u8 k) ∧ w'.cell? ⟨TB, 1, none⟩ = some (.int .i64 id) ∧ w'.cell? ⟨TB, 2, none⟩ = some (.int .u16 s) ∧ w'.cell? ⟨TB, 3, none⟩ = some (.int .u16 b) ∧ w'.cell? ⟨GB, j, none⟩ = some (.int .u64 gj)) ∧ Below (w5.heap.size) w5 w') (by kernel_rfl) (KQ.out _ (below_of_drew ((Below.refl w5.heap.size w5)))) (fun hH => ?_)
                              have hbR := below_of_drew ((Below.refl w5.heap.size w5))
                              first | (refine wpAnyZ_take (i := 0) (v := undef) rfl ?_ ?_ ?_ ?_ (fun _ _ _ h => h) ?_ ?_ ?_; kernel_rfl; kernel_rfl; kernel_rfl; kernel_rfl; exact Or.inr ⟨by rfl, rfl⟩; exact hH) | (refine wpAnyZ_take (i := 0) (v := ?_) rfl ?_ ?_ ?_ ?_ (fun _ _ _ h => h) ?_ ?_ ?_; rotate_left; kernel_rfl; kernel_rfl; kernel_rfl; kernel_rfl; (focus (refine Or.inl ⟨by rfl, ?_⟩; intro w' hSw; (try dsimp only at hSw); go_simp)); exact hH) | (refine wpAnyZ_take (i := 0) (v := ?_) rfl ?_ ?_ ?_ ?_ (fun _ _ _ h => h) ?_ ?_ ?_; rotate_left; kernel_rfl; kernel_rfl; kernel_rfl; kernel_rfl; (focus (refine Or.inl ⟨by rfl, ?_⟩; intro w' hSw; (try dsimp only at hSw); go_simp; with_reducible rfl)); exact hH)
                              try simp only [Act.put, List.getElem_toArray, List.getElem_cons_succ, List.getElem_cons_zero, List.setIfInBounds_toArray, List.set_cons_zero, List.set_cons_succ]
                              first | (refine wpAnyZ_take (i := 1) (v := undef) rfl ?_ ?_ ?_ ?_ (fun _ _ _ h => h) ?_ ?_ ?_; kernel_rfl; kernel_rfl; kernel_rfl; kernel_rfl; exact Or.inr ⟨by rfl, rfl⟩; exact hH) | (refine wpAnyZ_take (i := 1) (v := ?_) rfl ?_ ?_ ?_ ?_ (fun _ _ _ h => h) ?_ ?_ ?_; rotate_left; kernel_rfl; kernel_rfl; kernel_rfl; kernel_rfl; (focus (refine Or.inl ⟨by rfl, ?_⟩; intro w' hSw; (try dsimp only at hSw); go_simp)); exact hH) | (refine wpAnyZ_take (i := 1) (v := ?_) rfl ?_ ?_ ?_ ?_ (fun _ _ _ h => h) ?_ ?_ ?_; rotate_left; kernel_rfl; kernel_rfl; kernel_rfl; kernel_rfl; (focus (refine Or.inl ⟨by rfl, ?_⟩; intro w' hSw; (try dsimp only at hSw); go_simp; with_reducible rfl)); exact hH)
                              try simp only [Act.put, List.getElem_toArray, List.getElem_cons_succ, List.getElem_cons_zero, List.setIfInBounds_toArray, List.set_cons_zero, List.set_cons_succ]
                              first | (refine wpAnyZ_take (i := 2) (v := undef) rfl ?_ ?_ ?_ ?_ (fun _ _ _ h => h) ?_ ?_ ?_; kernel_rfl; kernel_rfl; kernel_rfl; kernel_rfl; exact Or.inr ⟨by rfl, rfl⟩; exact hH) | (refine wpAnyZ_take (i := 2) (v := ?_) rfl ?_ ?_ ?_ ?_ (fun _ _ _ h => h) ?_ ?_ ?_; rotate_left; kernel_rfl; kernel_rfl; kernel_rfl; kernel_rfl; (focus (refine Or.inl ⟨by rfl, ?_⟩; intro w' hSw; (try dsimp only at hSw); go_simp)); exact hH) | (refine wpAnyZ_take (i := 2) (v := ?_) rfl ?_ ?_ ?_ ?_ (fun _ _ _ h => h) ?_ ?_ ?_; rotate_left; kernel_rfl; kernel_rfl; kernel_rfl; kernel_rfl; (focus (refine Or.inl ⟨by rfl, ?_⟩; intro w' hSw; (try dsimp only at hSw); go_simp; with_reducible rfl)); exact hH)
                              try simp only [Act.put, List.getElem_toArray, List.getElem_cons_succ, List.getElem_cons_zero, List.setIfInBounds_toArray, List.set_cons_zero, List.set_cons_succ]
                              first | (refine wpAnyZ_take (i := 3) (v := undef) rfl ?_ ?_ ?_ ?_ (fun _ _ _ h => h) ?_ ?_ ?_; kernel_rfl; kernel_rfl; kernel_rfl; kernel_rfl; exact Or.inr ⟨by rfl, rfl⟩; exact hH) | (refine wpAnyZ_take (i := 3) (v := ?_) rfl ?_ ?_ ?_ ?_ (fun _ _ _ h => h) ?_ ?_ ?_; rotate_left; kernel_rfl; kernel_rfl; kernel_rfl; kernel_rfl; (focus (refine Or.inl ⟨by rfl, ?_⟩; intro w' hSw; (try dsimp only at hSw); go_simp)); exact hH) | (refine wpAnyZ_take (i := 3) (v := ?_) rfl ?_ ?_ ?_ ?_ (fun _ _ _ h => h) ?_ ?_ ?_; rotate_left; kernel_rfl; kernel_rfl; kernel_rfl; kernel_rfl; (focus (refine Or.inl ⟨by rfl, ?_⟩; intro w' hSw; (try dsimp only at hSw); go_simp; with_reducible rfl)); exact hH)
                              try simp only [Act.put, List.getElem_toArray, List.getElem_cons_succ, List.getElem_cons_zero, List.setIfInBounds_toArray, List.set_cons_zero, List.set_cons_succ]
                              first | (refine wpAnyZ_take (i := 4) (v := undef) rfl ?_ ?_ ?_ ?_ (fun _ _ _ h => h) ?_ ?_ ?_; kernel_rfl; kernel_rfl; kernel_rfl; kernel_rfl; exact Or.inr ⟨by rfl, rfl⟩; exact hH) | (refine wpAnyZ_take (i := 4) (v := ?_) rfl ?_ ?_ ?_ ?_ (fun _ _ _ h => h) ?_ ?_ ?_; rotate_left; kernel_rfl; kernel_rfl; kernel_rfl; kernel_rfl; (focus (refine Or.inl ⟨by rfl, ?_⟩; intro w' hSw; (try dsimp only at hSw); go_simp)); exact hH) | (refine wpAnyZ_take (i := 4) (v := ?_) rfl ?_ ?_ ?_ ?_ (fun _ _ _ h => h) ?_ ?_ ?_; rotate_left; kernel_rfl; kernel_rfl; kernel_rfl; kernel_rfl; (focus (refine Or.inl ⟨by rfl, ?_⟩; intro w' hSw; (try dsimp only at hSw); go_simp; with_reducible rfl)); exact hH)
                              try simp only [Act.put, List.getElem_toArray, List.getElem_cons_succ, List.getElem_cons_zero, List.setIfInBounds_toArray, List.set_cons_zero, List.set_cons_succ]
                              first | (refine wpAnyZ_take (i := 5) (v := undef) rfl ?_ ?_ ?_ ?_ (fun _ _ _ h => h) ?_ ?_ ?_; kernel_rfl; kernel_rfl; kernel_rfl; kernel_rfl; exact Or.inr ⟨by rfl, rfl⟩; exact hH) | (refine wpAnyZ_take (i := 5) (v := ?_) rfl ?_ ?_ ?_ ?_ (fun _ _ _ h => h) ?_ ?_ ?_; rotate_left; kernel_rfl; kernel_rfl; kernel_rfl; kernel_rfl; (focus (refine Or.inl ⟨by rfl, ?_⟩; intro w' hSw; (try dsimp only at hSw); go_simp)); exact hH) | (refine wpAnyZ_take (i := 5) (v := ?_) rfl ?_ ?_ ?_ ?_ (fun _ _ _ h => h) ?_ ?_ ?_; rotate_left; kernel_rfl; kernel_rfl; kernel_rfl; kernel_rfl; (focus (refine Or.inl ⟨by rfl, ?_⟩; intro w' hSw; (try dsimp only at hSw); go_simp; with_reducible rfl)); exact hH)
                              try simp only [Act.put, List.getElem_toArray, List.getElem_cons_succ, List.getElem_cons_zero, List.setIfInBounds_toArray, List.set_cons_zero, List.set_cons_succ]
                              first | (refine wpAnyZ_take (i := 6) (v := undef) rfl ?_ ?_ ?_ ?_ (fun _ _ _ h => h) ?_ ?_ ?_; kernel_rfl; kernel_rfl; kernel_rfl; kernel_rfl; exact Or.inr ⟨by rfl, rfl⟩; exact hH) | (refine wpAnyZ_take (i := 6) (v := ?_) rfl ?_ ?_ ?_ ?_ (fun _ _ _ h => h) ?_ ?_ ?_; rotate_left; kernel_rfl; kernel_rfl; kernel_rfl; kernel_rfl; (focus (refine Or.inl ⟨by rfl, ?_⟩; intro w' hSw; (try dsimp only at hSw); go_simp)); exact hH) | (refine wpAnyZ_take (i := 6) (v := ?_) rfl ?_ ?_ ?_ ?_ (fun _ _ _ h => h) ?_ ?_ ?_; rotate_left; kernel_rfl; kernel_rfl; kernel_rfl; kernel_rfl; (focus (refine Or.inl ⟨by rfl, ?_⟩; intro w' hSw; (try dsimp only at hSw); go_simp; with_reducible rfl)); exact hH)
                              try simp only [Act.put, List.getElem_toArray, List.getElem_cons_succ, List.getElem_cons_zero, List.setIfInBounds_toArray, List.set_cons_zero, List.set_cons_succ]
                              first | (refine wpAnyZ_take (i := 7) (v := undef) rfl ?_ ?_ ?_ ?_ (fun _ _ _ h => h) ?_ ?_ ?_; kernel_rfl; kernel_rfl; kernel_rfl; kernel_rfl; exact Or.inr ⟨by rfl, rfl⟩; exact hH) | (refine wpAnyZ_take (i := 7) (v := ?_) rfl ?_ ?_ ?_ ?_ (fun _ _ _ h => h) ?_ ?_ ?_; rotate_left; kernel_rfl; kernel_rfl; kernel_rfl; kernel_rfl; (focus (refine Or.inl ⟨by rfl, ?_⟩; intro w' hSw; (try dsimp only at hSw); go_simp)); exact hH) | (refine wpAnyZ_take (i := 7) (v := ?_) rfl ?_ ?_ ?_ ?_ (fun _ _ _ h => h) ?_ ?_ ?_; rotate_left; kernel_rfl; kernel_rfl; kernel_rfl; kernel_rfl; (focus (refine Or.inl ⟨by rfl, ?_⟩; intro w' hSw; (try dsimp only at hSw); go_simp; with_reducible rfl)); exact hH)
                              try simp only [Act.put, List.getElem_toArray, List.getElem_cons_succ, List.getElem_cons_zero, List.setIfInBounds_toArray, List.set_cons_zero, List.set_cons_succ]
                              first | (refine wpAnyZ_take (i := 8) (v := undef) rfl ?_ ?_ ?_ ?_ (fun _ _ _ h => h) ?_ ?_ ?_; kernel_rfl; kernel_rfl; kernel_rfl; kernel_rfl; exact Or.inr ⟨by rfl, rfl⟩; exact hH) | (refine wpAnyZ_take (i := 8) (v := ?_) rfl ?_ ?_ ?_ ?_ (fun _ _ _ h => h) ?_ ?_ ?_; rotate_left; kernel_rfl; kernel_rfl; kernel_rfl; kernel_rfl; (focus (refine Or.inl ⟨by rfl, ?_⟩; intro w' hSw; (try dsimp only at hSw); go_simp)); exact hH) | (refine wpAnyZ_take (i := 8) (v := ?_) rfl ?_ ?_ ?_ ?_ (fun _ _ _ h => h) ?_ ?_ ?_; rotate_left; kernel_rfl; kernel_rfl; kernel_rfl; kernel_rfl; (focus (refine Or.inl ⟨by rfl, ?_⟩; intro w' hSw; (try dsimp only at hSw); go_simp; with_reducible rfl)); exact hH)
                              try simp only [Act.put, List.getElem_toArray, List.getElem_cons_succ, List.getElem_cons_zero, List.setIfInBounds_toArray, List.set_cons_zero, List.set_cons_succ]
                              refine wpAnyZ_ready (rs := [9]) (by kernel_rfl) (by simp) ?_
                              refine (AllReadyZ.cons rfl (fun K hK => ?_) AllReadyZ.nil)
                              go_simp
                              with_reducible refine (GR.out _).mono ?_
                              rintro e w1 ⟨rfl, hb1'⟩
                              have hb1 : Below (w5.heap.size) w5 w1 := below_next hH.2 hb1'
                              try go_wp2_with fail
                              have hH1 := KQ.out _ hb1
                              refine hK.out _ _ (fun _ => hH1) ?_
                              clear hK K hH
                              have hH := hH1
                              clear hH1
                              try simp only [Act.put, List.getElem_toArray, List.getElem_cons_succ, List.getElem_cons_zero, List.setIfInBounds_toArray, List.set_cons_zero, List.set_cons_succ]
                              first | (refine wpAnyZ_take (i := 10) (v := undef) rfl ?_ ?_ ?_ ?_ (fun _ _ _ h => h) ?_ ?_ ?_; kernel_rfl; kernel_rfl; kernel_rfl; kernel_rfl; exact Or.inr ⟨by rfl, rfl⟩; exact hH) | (refine wpAnyZ_take (i := 10) (v := ?_) rfl ?_ ?_ ?_ ?_ (fun _ _ _ h => h) ?_ ?_ ?_; rotate_left; kernel_rfl; kernel_rfl; kernel_rfl; kernel_rfl; (focus (refine Or.inl ⟨by rfl, ?_⟩; intro w' hSw; (try dsimp only at hSw); go_simp)); exact hH) | (refine wpAnyZ_take (i := 10) (v := ?_) rfl ?_ ?_ ?_ ?_ (fun _ _ _ h => h) ?_ ?_ ?_; rotate_left; kernel_rfl; kernel_rfl; kernel_rfl; kernel_rfl; (focus (refine Or.inl ⟨by rfl, ?_⟩; intro w' hSw; (try dsimp only at hSw); go_simp; with_reducible rfl)); exact hH)
                              try simp only [Act.put, List.getElem_toArray, List.getElem_cons_succ, List.getElem_cons_zero, List.setIfInBounds_toArray, List.set_cons_zero, List.set_cons_succ]
                              first | (refine wpAnyZ_take (i := 11) (v := undef) rfl ?_ ?_ ?_ ?_ (fun _ _ _ h => h) ?_ ?_ ?_; kernel_rfl; kernel_rfl; kernel_rfl; kernel_rfl; exact Or.inr ⟨by rfl, rfl⟩; exact hH) | (refine wpAnyZ_take (i := 11) (v := ?_) rfl ?_ ?_ ?_ ?_ (fun _ _ _ h => h) ?_ ?_ ?_; rotate_left; kernel_rfl; kernel_rfl; kernel_rfl; kernel_rfl; (focus (refine Or.inl ⟨by rfl, ?_⟩; intro w' hSw; (try dsimp only at hSw); go_simp)); exact hH) | (refine wpAnyZ_take (i := 11) (v := ?_) rfl ?_ ?_ ?_ ?_ (fun _ _ _ h => h) ?_ ?_ ?_; rotate_left; kernel_rfl; kernel_rfl; kernel_rfl; kernel_rfl; (focus (refine Or.inl ⟨by rfl, ?_⟩; intro w' hSw; (try dsimp only at hSw); go_simp; with_reducible rfl)); exact hH)
                              try simp only [Act.put, List.getElem_toArray, List.getElem_cons_succ, List.getElem_cons_zero, List.setIfInBounds_toArray, List.set_cons_zero, List.set_cons_succ]
                              refine wpAnyZ_ready (rs := [12]) (by kernel_rfl) (by simp) ?_
                              refine (AllReadyZ.cons rfl (fun K hK => ?_) AllReadyZ.nil)
                              have hfz := ((H5.out.2.2.2.next hb1).cell HJ8.out).2
                              obtain ⟨wq, hwq⟩ : ∃ z, World.setCell w1 ⟨GB, j, none⟩ (.int .u64 gn) = z := ⟨_, rfl⟩
                              have HWQ := Lib.hid hwq
                              have HPRE := Lib.hid (And.intro (H5.out.1.next hb1) (H5.out.2.2.2.next hb1))
                              clear hwq
                              go_simp
                              refine hK.out _ _ (fun h => absurd (by simp) h) ?_
                              clear hK K
                              try simp only [Act.put, List.getElem_toArray, List.getElem_cons_succ, List.getElem_cons_zero, List.setIfInBounds_toArray, List.set_cons_zero, List.set_cons_succ]
                              refine wpAnyZ_done (by kernel_rfl) ?_ _
                              refine NoPanic.normal ?_
                              skip
                              try clear hH
                              rw [HWQ.out]
                              have hwq := HWQ.out
                              obtain ⟨cs8, h8⟩ := HPRE.out.2.blk
                              have hg8 := HPRE.out.2.put (j := j) gn HJ8.out
                              rw [hwq, HG4.out] at hg8
                              have hfr : Fr (fun k => k = GB) _ wq := hwq ▸ Fr.setCell (S := fun k => k = GB) (p := ⟨GB, j, none⟩) (Fr.refl _ _) (fun _ => rfl) (.int .u64 gn)
                              have hfq := HPRE.out.1.store h8 (by decide) (by decide) (by decide) (by decide) (by decide) (by decide) hfr HGB.out
                              have H6 := Lib.hid (And.intro hfq hg8)
                              have HBD4 : Hid (∀ j' : Int, 0 ≤ j' → j' < 8 → 0 ≤ g4 j' ∧ g4 j' ≤ 384000 * ((i + 1 : Nat) : Int)) := by
                                intro j' h0 h1
                                rw [← HG4.out]
                                show 0 ≤ (if j' = (j : Int) then gn else g1 j') ∧ (if j' = (j : Int) then gn else g1 j') ≤ _
                                have h2 := HBD.out j' h0 h1
                                have h3 := HGN.out
                                split <;> omega
                              clear hwq h8 hg8 hfr hfq KQ x0
                              clear HWQ HPRE
                              by_cases q : bg ≤ i
                              · have q1 : decide ((bg : Int) ≤ (i : Int)) = true := decide_eq_true (by omega)
                                have q2 : decide (bg ≤ i) = true := decide_eq_true q
                                have hchk := (HN4.out.2.2.2 q).check HN4.out.1 HN4.out.2.1
                                have hab := HAB.out
                                have hn := HN.out
                                have HSO := Lib.hid ((HB0.out.below HB.out).below H6.out.1.below)
                                obtain ⟨bS, offS, rfl, hbS⟩ := HSO.out.addr (by omega)
                                have sA := HSO.out.cells bS offS rfl an hab.1
                                have sB := HSO.out.cells bS offS rfl bn hab.2
                                have wA := HWF.out an hab.1
                                have wB := HWF.out bn hab.2
                                have rA : rF (an : Int) = slopeN (F an) := by rw [HRF.out]; show slopeN (F (an : Int).toNat) = _; rw [Int.toNat_natCast]
                                have rB : rF (bn : Int) = slopeN (F bn) := by rw [HRF.out]; show slopeN (F (bn : Int).toNat) = _; rw [Int.toNat_natCast]
                                have bA := slope_bounds wA.1
                                have bB := slope_bounds wB.1
                                have SA := Lib.hid (fun w => slope_any 0 0 (F an) 0 w wA.1 wA.2)
                                have SB := Lib.hid (fun w => slope_any 0 0 (F bn) 0 w wB.1 wB.2)
                                rw [← rA] at SA bA
                                rw [← rB] at SB bB
                                have gA := HBD4.out (an : Int) (by omega) (by omega)
                                have gB := HBD4.out (bn : Int) (by omega) (by omega)
                                have cA := (H6.out.2.cell (j := an) (by omega)).1
                                have cB := (H6.out.2.cell (j := bn) (by omega)).1
                                obtain ⟨ga, hga⟩ : ∃ z, g4 (an : Int) = z := ⟨_, rfl⟩
                                obtain ⟨gb, hgb⟩ : ∃ z, g4 (bn : Int) = z := ⟨_, rfl⟩
                                obtain ⟨ra, hra⟩ : ∃ z, rF (an : Int) = z := ⟨_, rfl⟩
                                obtain ⟨rb, hrb⟩ : ∃ z, rF (bn : Int) = z := ⟨_, rfl⟩
                                obtain ⟨fa, hfa⟩ : ∃ z, F an = z := ⟨_, rfl⟩
                                obtain ⟨fb, hfb⟩ : ∃ z, F bn = z := ⟨_, rfl⟩
                                rw [hga] at cA gA hchk
                                rw [hgb] at cB gB hchk
                                rw [hra] at SA bA hchk
                                rw [hrb] at SB bB hchk
                                rw [hfa] at SA sA
                                rw [hfb] at SB sB
                                have hst := HN4.out.1
                                have hlt2 := HLT.out
                                have WI := Lib.hid (fun w => within_any ga ra gb rb M' l w (by omega) (by omega) bA bB ⟨hst.m0, hst.m1⟩ ⟨hst.l1, hst.l2⟩ hchk.1 hchk.2)
                                have HC := Lib.hid (And.intro cA (And.intro cB (And.intro sA (And.intro sB hbS))))
                                have j1 : (an : Int) < 8 := by omega
                                have j2 : (bn : Int) < 8 := by omega
                                have j3 : (0 : Int) ≤ (an : Int) := by omega
                                have j4 : (0 : Int) ≤ (bn : Int) := by omega
                                have j5 : (an : Int) < (n0 : Int) := by omega
                                have j6 : (bn : Int) < (n0 : Int) := by omega
                                have j7 : an < n0 := by omega
                                have j8 : bn < n0 := by omega
                                have j9 : an < 8 := by omega
                                have j10 : bn < 8 := by omega
                                have HQ := Lib.hid q
                                have HS6 := Lib.hid (show GB < wq.heap.size from by obtain ⟨cs, h⟩ := H6.out.2.blk; exact h.lt)
                                clear q hchk hab hn sA sB wA wB rA rB bA bB gA gB cA cB hga hgb hra hrb hfa hfb hst hlt2 hbS
                                go_upto_region 40 with (fail)
                                have KS : Hid (∀ w', Below (wq.heap.size) wq w' → (w'.cell? ⟨GB, an, none⟩ = some (.int .u64 ga) ∧ w'.cell? ⟨GB, bn, none⟩ = some (.int .u64 gb) ∧ w'.cell? ⟨bS, offS + an, none⟩ = some (.int .u16 fa) ∧ w'.cell? ⟨bS, offS + bn, none⟩ = some (.int .u16 fb)) ∧ Below (wq.heap.size) wq w') := fun w' hb => ⟨⟨(hb.cell (p := ⟨GB, an, none⟩) HS6.out).trans HC.out.1, (hb.cell (p := ⟨GB, bn, none⟩) HS6.out).trans HC.out.2.1, (hb.cell (p := ⟨bS, offS + an, none⟩) (Nat.lt_of_lt_of_le HC.out.2.2.2.2 (Nat.le_refl _))).trans HC.out.2.2.1, (hb.cell (p := ⟨bS, offS + bn, none⟩) (Nat.lt_of_lt_of_le HC.out.2.2.2.2 (Nat.le_refl _))).trans HC.out.2.2.2.1⟩, hb⟩
                                refine wp_region_noPanic ?_
                                refine wp_region_held_drew (S := fun w' => (w'.cell? ⟨GB, an, none⟩ = some (.int .u64 ga) ∧ w'.cell? ⟨GB, bn, none⟩ = some (.int .u64 gb) ∧ w'.cell? ⟨bS, offS + an, none⟩ = some (.int .u16 fa) ∧ w'.cell? ⟨bS, offS + bn, none⟩ = some (.int .u16 fb)) ∧ Below (wq.heap.size) wq w') (by kernel_rfl) (KS.out _ (below_of_drew ((Below.refl wq.heap.size wq)))) (fun hH => ?_)
                                have hbR := below_of_drew ((Below.refl wq.heap.size wq))
                                first | (refine wpAnyH_take (i := 0) (v := undef) rfl ?_ ?_ ?_ (fun _ _ _ h => h) ?_ ?_ ?_; kernel_rfl; kernel_rfl; kernel_rfl; exact Or.inr ⟨by rfl, rfl⟩; exact hH) | (refine wpAnyH_take (i := 0) (v := ?_) rfl ?_ ?_ ?_ (fun _ _ _ h => h) ?_ ?_ ?_; rotate_left; kernel_rfl; kernel_rfl; kernel_rfl; (focus (refine Or.inl ⟨by rfl, ?_⟩; intro w' hSw; (try dsimp only at hSw); go_simp)); exact hH) | (refine wpAnyH_take (i := 0) (v := ?_) rfl ?_ ?_ ?_ (fun _ _ _ h => h) ?_ ?_ ?_; rotate_left; kernel_rfl; kernel_rfl; kernel_rfl; (focus (refine Or.inl ⟨by rfl, ?_⟩; intro w' hSw; (try dsimp only at hSw); go_simp; with_reducible rfl)); exact hH)
                                try simp only [Act.put, List.getElem_toArray, List.getElem_cons_succ, List.getElem_cons_zero, List.setIfInBounds_toArray, List.set_cons_zero, List.set_cons_succ]
                                first | (refine wpAnyH_take (i := 1) (v := undef) rfl ?_ ?_ ?_ (fun _ _ _ h => h) ?_ ?_ ?_; kernel_rfl; kernel_rfl; kernel_rfl; exact Or.inr ⟨by rfl, rfl⟩; exact hH) | (refine wpAnyH_take (i := 1) (v := ?_) rfl ?_ ?_ ?_ (fun _ _ _ h => h) ?_ ?_ ?_; rotate_left; kernel_rfl; kernel_rfl; kernel_rfl; (focus (refine Or.inl ⟨by rfl, ?_⟩; intro w' hSw; (try dsimp only at hSw); go_simp)); exact hH) | (refine wpAnyH_take (i := 1) (v := ?_) rfl ?_ ?_ ?_ (fun _ _ _ h => h) ?_ ?_ ?_; rotate_left; kernel_rfl; kernel_rfl; kernel_rfl; (focus (refine Or.inl ⟨by rfl, ?_⟩; intro w' hSw; (try dsimp only at hSw); go_simp; with_reducible rfl)); exact hH)
                                try simp only [Act.put, List.getElem_toArray, List.getElem_cons_succ, List.getElem_cons_zero, List.setIfInBounds_toArray, List.set_cons_zero, List.set_cons_succ]
                                first | (refine wpAnyH_take (i := 2) (v := undef) rfl ?_ ?_ ?_ (fun _ _ _ h => h) ?_ ?_ ?_; kernel_rfl; kernel_rfl; kernel_rfl; exact Or.inr ⟨by rfl, rfl⟩; exact hH) | (refine wpAnyH_take (i := 2) (v := ?_) rfl ?_ ?_ ?_ (fun _ _ _ h => h) ?_ ?_ ?_; rotate_left; kernel_rfl; kernel_rfl; kernel_rfl; (focus (refine Or.inl ⟨by rfl, ?_⟩; intro w' hSw; (try dsimp only at hSw); go_simp)); exact hH) | (refine wpAnyH_take (i := 2) (v := ?_) rfl ?_ ?_ ?_ (fun _ _ _ h => h) ?_ ?_ ?_; rotate_left; kernel_rfl; kernel_rfl; kernel_rfl; (focus (refine Or.inl ⟨by rfl, ?_⟩; intro w' hSw; (try dsimp only at hSw); go_simp; with_reducible rfl)); exact hH)
                                try simp only [Act.put, List.getElem_toArray, List.getElem_cons_succ, List.getElem_cons_zero, List.setIfInBounds_toArray, List.set_cons_zero, List.set_cons_succ]
                                first | (refine wpAnyH_take (i := 3) (v := undef) rfl ?_ ?_ ?_ (fun _ _ _ h => h) ?_ ?_ ?_; kernel_rfl; kernel_rfl; kernel_rfl; exact Or.inr ⟨by rfl, rfl⟩; exact hH) | (refine wpAnyH_take (i := 3) (v := ?_) rfl ?_ ?_ ?_ (fun _ _ _ h => h) ?_ ?_ ?_; rotate_left; kernel_rfl; kernel_rfl; kernel_rfl; (focus (refine Or.inl ⟨by rfl, ?_⟩; intro w' hSw; (try dsimp only at hSw); go_simp)); exact hH) | (refine wpAnyH_take (i := 3) (v := ?_) rfl ?_ ?_ ?_ (fun _ _ _ h => h) ?_ ?_ ?_; rotate_left; kernel_rfl; kernel_rfl; kernel_rfl; (focus (refine Or.inl ⟨by rfl, ?_⟩; intro w' hSw; (try dsimp only at hSw); go_simp; with_reducible rfl)); exact hH)
                                try simp only [Act.put, List.getElem_toArray, List.getElem_cons_succ, List.getElem_cons_zero, List.setIfInBounds_toArray, List.set_cons_zero, List.set_cons_succ]
                                first | (refine wpAnyH_take (i := 4) (v := undef) rfl ?_ ?_ ?_ (fun _ _ _ h => h) ?_ ?_ ?_; kernel_rfl; kernel_rfl; kernel_rfl; exact Or.inr ⟨by rfl, rfl⟩; exact hH) | (refine wpAnyH_take (i := 4) (v := ?_) rfl ?_ ?_ ?_ (fun _ _ _ h => h) ?_ ?_ ?_; rotate_left; kernel_rfl; kernel_rfl; kernel_rfl; (focus (refine Or.inl ⟨by rfl, ?_⟩; intro w' hSw; (try dsimp only at hSw); go_simp)); exact hH) | (refine wpAnyH_take (i := 4) (v := ?_) rfl ?_ ?_ ?_ (fun _ _ _ h => h) ?_ ?_ ?_; rotate_left; kernel_rfl; kernel_rfl; kernel_rfl; (focus (refine Or.inl ⟨by rfl, ?_⟩; intro w' hSw; (try dsimp only at hSw); go_simp; with_reducible rfl)); exact hH)
                                try simp only [Act.put, List.getElem_toArray, List.getElem_cons_succ, List.getElem_cons_zero, List.setIfInBounds_toArray, List.set_cons_zero, List.set_cons_succ]
                                first | (refine wpAnyH_take (i := 5) (v := undef) rfl ?_ ?_ ?_ (fun _ _ _ h => h) ?_ ?_ ?_; kernel_rfl; kernel_rfl; kernel_rfl; exact Or.inr ⟨by rfl, rfl⟩; exact hH) | (refine wpAnyH_take (i := 5) (v := ?_) rfl ?_ ?_ ?_ (fun _ _ _ h => h) ?_ ?_ ?_; rotate_left; kernel_rfl; kernel_rfl; kernel_rfl; (focus (refine Or.inl ⟨by rfl, ?_⟩; intro w' hSw; (try dsimp only at hSw); go_simp)); exact hH) | (refine wpAnyH_take (i := 5) (v := ?_) rfl ?_ ?_ ?_ (fun _ _ _ h => h) ?_ ?_ ?_; rotate_left; kernel_rfl; kernel_rfl; kernel_rfl; (focus (refine Or.inl ⟨by rfl, ?_⟩; intro w' hSw; (try dsimp only at hSw); go_simp; with_reducible rfl)); exact hH)
                                try simp only [Act.put, List.getElem_toArray, List.getElem_cons_succ, List.getElem_cons_zero, List.setIfInBounds_toArray, List.set_cons_zero, List.set_cons_succ]
                                first | (refine wpAnyH_take (i := 6) (v := undef) rfl ?_ ?_ ?_ (fun _ _ _ h => h) ?_ ?_ ?_; kernel_rfl; kernel_rfl; kernel_rfl; exact Or.inr ⟨by rfl, rfl⟩; exact hH) | (refine wpAnyH_take (i := 6) (v := ?_) rfl ?_ ?_ ?_ (fun _ _ _ h => h) ?_ ?_ ?_; rotate_left; kernel_rfl; kernel_rfl; kernel_rfl; (focus (refine Or.inl ⟨by rfl, ?_⟩; intro w' hSw; (try dsimp only at hSw); go_simp)); exact hH) | (refine wpAnyH_take (i := 6) (v := ?_) rfl ?_ ?_ ?_ (fun _ _ _ h => h) ?_ ?_ ?_; rotate_left; kernel_rfl; kernel_rfl; kernel_rfl; (focus (refine Or.inl ⟨by rfl, ?_⟩; intro w' hSw; (try dsimp only at hSw); go_simp; with_reducible rfl)); exact hH)
                                try simp only [Act.put, List.getElem_toArray, List.getElem_cons_succ, List.getElem_cons_zero, List.setIfInBounds_toArray, List.set_cons_zero, List.set_cons_succ]
                                first | (refine wpAnyH_take (i := 7) (v := undef) rfl ?_ ?_ ?_ (fun _ _ _ h => h) ?_ ?_ ?_; kernel_rfl; kernel_rfl; kernel_rfl; exact Or.inr ⟨by rfl, rfl⟩; exact hH) | (refine wpAnyH_take (i := 7) (v := ?_) rfl ?_ ?_ ?_ (fun _ _ _ h => h) ?_ ?_ ?_; rotate_left; kernel_rfl; kernel_rfl; kernel_rfl; (focus (refine Or.inl ⟨by rfl, ?_⟩; intro w' hSw; (try dsimp only at hSw); go_simp)); exact hH) | (refine wpAnyH_take (i := 7) (v := ?_) rfl ?_ ?_ ?_ (fun _ _ _ h => h) ?_ ?_ ?_; rotate_left; kernel_rfl; kernel_rfl; kernel_rfl; (focus (refine Or.inl ⟨by rfl, ?_⟩; intro w' hSw; (try dsimp only at hSw); go_simp; with_reducible rfl)); exact hH)
                                try simp only [Act.put, List.getElem_toArray, List.getElem_cons_succ, List.getElem_cons_zero, List.setIfInBounds_toArray, List.set_cons_zero, List.set_cons_succ]
                                first | (refine wpAnyH_take (i := 8) (v := undef) rfl ?_ ?_ ?_ (fun _ _ _ h => h) ?_ ?_ ?_; kernel_rfl; kernel_rfl; kernel_rfl; exact Or.inr ⟨by rfl, rfl⟩; exact hH) | (refine wpAnyH_take (i := 8) (v := ?_) rfl ?_ ?_ ?_ (fun _ _ _ h => h) ?_ ?_ ?_; rotate_left; kernel_rfl; kernel_rfl; kernel_rfl; (focus (refine Or.inl ⟨by rfl, ?_⟩; intro w' hSw; (try dsimp only at hSw); go_simp)); exact hH) | (refine wpAnyH_take (i := 8) (v := ?_) rfl ?_ ?_ ?_ (fun _ _ _ h => h) ?_ ?_ ?_; rotate_left; kernel_rfl; kernel_rfl; kernel_rfl; (focus (refine Or.inl ⟨by rfl, ?_⟩; intro w' hSw; (try dsimp only at hSw); go_simp; with_reducible rfl)); exact hH)
                                try simp only [Act.put, List.getElem_toArray, List.getElem_cons_succ, List.getElem_cons_zero, List.setIfInBounds_toArray, List.set_cons_zero, List.set_cons_succ]
                                first | (refine wpAnyH_take (i := 9) (v := undef) rfl ?_ ?_ ?_ (fun _ _ _ h => h) ?_ ?_ ?_; kernel_rfl; kernel_rfl; kernel_rfl; exact Or.inr ⟨by rfl, rfl⟩; exact hH) | (refine wpAnyH_take (i := 9) (v := ?_) rfl ?_ ?_ ?_ (fun _ _ _ h => h) ?_ ?_ ?_; rotate_left; kernel_rfl; kernel_rfl; kernel_rfl; (focus (refine Or.inl ⟨by rfl, ?_⟩; intro w' hSw; (try dsimp only at hSw); go_simp)); exact hH) | (refine wpAnyH_take (i := 9) (v := ?_) rfl ?_ ?_ ?_ (fun _ _ _ h => h) ?_ ?_ ?_; rotate_left; kernel_rfl; kernel_rfl; kernel_rfl; (focus (refine Or.inl ⟨by rfl, ?_⟩; intro w' hSw; (try dsimp only at hSw); go_simp; with_reducible rfl)); exact hH)
                                try simp only [Act.put, List.getElem_toArray, List.getElem_cons_succ, List.getElem_cons_zero, List.setIfInBounds_toArray, List.set_cons_zero, List.set_cons_succ]
                                first | (refine wpAnyH_take (i := 10) (v := undef) rfl ?_ ?_ ?_ (fun _ _ _ h => h) ?_ ?_ ?_; kernel_rfl; kernel_rfl; kernel_rfl; exact Or.inr ⟨by rfl, rfl⟩; exact hH) | (refine wpAnyH_take (i := 10) (v := ?_) rfl ?_ ?_ ?_ (fun _ _ _ h => h) ?_ ?_ ?_; rotate_left; kernel_rfl; kernel_rfl; kernel_rfl; (focus (refine Or.inl ⟨by rfl, ?_⟩; intro w' hSw; (try dsimp only at hSw); go_simp)); exact hH) | (refine wpAnyH_take (i := 10) (v := ?_) rfl ?_ ?_ ?_ (fun _ _ _ h => h) ?_ ?_ ?_; rotate_left; kernel_rfl; kernel_rfl; kernel_rfl; (focus (refine Or.inl ⟨by rfl, ?_⟩; intro w' hSw; (try dsimp only at hSw); go_simp; with_reducible rfl)); exact hH)
                                try simp only [Act.put, List.getElem_toArray, List.getElem_cons_succ, List.getElem_cons_zero, List.setIfInBounds_toArray, List.set_cons_zero, List.set_cons_succ]
                                first | (refine wpAnyH_take (i := 11) (v := undef) rfl ?_ ?_ ?_ (fun _ _ _ h => h) ?_ ?_ ?_; kernel_rfl; kernel_rfl; kernel_rfl; exact Or.inr ⟨by rfl, rfl⟩; exact hH) | (refine wpAnyH_take (i := 11) (v := ?_) rfl ?_ ?_ ?_ (fun _ _ _ h => h) ?_ ?_ ?_; rotate_left; kernel_rfl; kernel_rfl; kernel_rfl; (focus (refine Or.inl ⟨by rfl, ?_⟩; intro w' hSw; (try dsimp only at hSw); go_simp)); exact hH) | (refine wpAnyH_take (i := 11) (v := ?_) rfl ?_ ?_ ?_ (fun _ _ _ h => h) ?_ ?_ ?_; rotate_left; kernel_rfl; kernel_rfl; kernel_rfl; (focus (refine Or.inl ⟨by rfl, ?_⟩; intro w' hSw; (try dsimp only at hSw); go_simp; with_reducible rfl)); exact hH)
                                try simp only [Act.put, List.getElem_toArray, List.getElem_cons_succ, List.getElem_cons_zero, List.setIfInBounds_toArray, List.set_cons_zero, List.set_cons_succ]
                                first | (refine wpAnyH_take (i := 13) (v := undef) rfl ?_ ?_ ?_ (fun _ _ _ h => h) ?_ ?_ ?_; kernel_rfl; kernel_rfl; kernel_rfl; exact Or.inr ⟨by rfl, rfl⟩; exact hH) | (refine wpAnyH_take (i := 13) (v := ?_) rfl ?_ ?_ ?_ (fun _ _ _ h => h) ?_ ?_ ?_; rotate_left; kernel_rfl; kernel_rfl; kernel_rfl; (focus (refine Or.inl ⟨by rfl, ?_⟩; intro w' hSw; (try dsimp only at hSw); go_simp)); exact hH) | (refine wpAnyH_take (i := 13) (v := ?_) rfl ?_ ?_ ?_ (fun _ _ _ h => h) ?_ ?_ ?_; rotate_left; kernel_rfl; kernel_rfl; kernel_rfl; (focus (refine Or.inl ⟨by rfl, ?_⟩; intro w' hSw; (try dsimp only at hSw); go_simp; with_reducible rfl)); exact hH)
                                try simp only [Act.put, List.getElem_toArray, List.getElem_cons_succ, List.getElem_cons_zero, List.setIfInBounds_toArray, List.set_cons_zero, List.set_cons_succ]
                                first | (refine wpAnyH_take (i := 14) (v := undef) rfl ?_ ?_ ?_ (fun _ _ _ h => h) ?_ ?_ ?_; kernel_rfl; kernel_rfl; kernel_rfl; exact Or.inr ⟨by rfl, rfl⟩; exact hH) | (refine wpAnyH_take (i := 14) (v := ?_) rfl ?_ ?_ ?_ (fun _ _ _ h => h) ?_ ?_ ?_; rotate_left; kernel_rfl; kernel_rfl; kernel_rfl; (focus (refine Or.inl ⟨by rfl, ?_⟩; intro w' hSw; (try dsimp only at hSw); go_simp)); exact hH) | (refine wpAnyH_take (i := 14) (v := ?_) rfl ?_ ?_ ?_ (fun _ _ _ h => h) ?_ ?_ ?_; rotate_left; kernel_rfl; kernel_rfl; kernel_rfl; (focus (refine Or.inl ⟨by rfl, ?_⟩; intro w' hSw; (try dsimp only at hSw); go_simp; with_reducible rfl)); exact hH)
                                try simp only [Act.put, List.getElem_toArray, List.getElem_cons_succ, List.getElem_cons_zero, List.setIfInBounds_toArray, List.set_cons_zero, List.set_cons_succ]
                                first | (refine wpAnyH_take (i := 15) (v := undef) rfl ?_ ?_ ?_ (fun _ _ _ h => h) ?_ ?_ ?_; kernel_rfl; kernel_rfl; kernel_rfl; exact Or.inr ⟨by rfl, rfl⟩; exact hH) | (refine wpAnyH_take (i := 15) (v := ?_) rfl ?_ ?_ ?_ (fun _ _ _ h => h) ?_ ?_ ?_; rotate_left; kernel_rfl; kernel_rfl; kernel_rfl; (focus (refine Or.inl ⟨by rfl, ?_⟩; intro w' hSw; (try dsimp only at hSw); go_simp)); exact hH) | (refine wpAnyH_take (i := 15) (v := ?_) rfl ?_ ?_ ?_ (fun _ _ _ h => h) ?_ ?_ ?_; rotate_left; kernel_rfl; kernel_rfl; kernel_rfl; (focus (refine Or.inl ⟨by rfl, ?_⟩; intro w' hSw; (try dsimp only at hSw); go_simp; with_reducible rfl)); exact hH)
                                try simp only [Act.put, List.getElem_toArray, List.getElem_cons_succ, List.getElem_cons_zero, List.setIfInBounds_toArray, List.set_cons_zero, List.set_cons_succ]
                                first | (refine wpAnyH_take (i := 16) (v := undef) rfl ?_ ?_ ?_ (fun _ _ _ h => h) ?_ ?_ ?_; kernel_rfl; kernel_rfl; kernel_rfl; exact Or.inr ⟨by rfl, rfl⟩; exact hH) | (refine wpAnyH_take (i := 16) (v := ?_) rfl ?_ ?_ ?_ (fun _ _ _ h => h) ?_ ?_ ?_; rotate_left; kernel_rfl; kernel_rfl; kernel_rfl; (focus (refine Or.inl ⟨by rfl, ?_⟩; intro w' hSw; (try dsimp only at hSw); go_simp)); exact hH) | (refine wpAnyH_take (i := 16) (v := ?_) rfl ?_ ?_ ?_ (fun _ _ _ h => h) ?_ ?_ ?_; rotate_left; kernel_rfl; kernel_rfl; kernel_rfl; (focus (refine Or.inl ⟨by rfl, ?_⟩; intro w' hSw; (try dsimp only at hSw); go_simp; with_reducible rfl)); exact hH)
                                try simp only [Act.put, List.getElem_toArray, List.getElem_cons_succ, List.getElem_cons_zero, List.setIfInBounds_toArray, List.set_cons_zero, List.set_cons_succ]
                                first | (refine wpAnyH_take (i := 17) (v := undef) rfl ?_ ?_ ?_ (fun _ _ _ h => h) ?_ ?_ ?_; kernel_rfl; kernel_rfl; kernel_rfl; exact Or.inr ⟨by rfl, rfl⟩; exact hH) | (refine wpAnyH_take (i := 17) (v := ?_) rfl ?_ ?_ ?_ (fun _ _ _ h => h) ?_ ?_ ?_; rotate_left; kernel_rfl; kernel_rfl; kernel_rfl; (focus (refine Or.inl ⟨by rfl, ?_⟩; intro w' hSw; (try dsimp only at hSw); go_simp)); exact hH) | (refine wpAnyH_take (i := 17) (v := ?_) rfl ?_ ?_ ?_ (fun _ _ _ h => h) ?_ ?_ ?_; rotate_left; kernel_rfl; kernel_rfl; kernel_rfl; (focus (refine Or.inl ⟨by rfl, ?_⟩; intro w' hSw; (try dsimp only at hSw); go_simp; with_reducible rfl)); exact hH)
                                try simp only [Act.put, List.getElem_toArray, List.getElem_cons_succ, List.getElem_cons_zero, List.setIfInBounds_toArray, List.set_cons_zero, List.set_cons_succ]
                                first | (refine wpAnyH_take (i := 18) (v := undef) rfl ?_ ?_ ?_ (fun _ _ _ h => h) ?_ ?_ ?_; kernel_rfl; kernel_rfl; kernel_rfl; exact Or.inr ⟨by rfl, rfl⟩; exact hH) | (refine wpAnyH_take (i := 18) (v := ?_) rfl ?_ ?_ ?_ (fun _ _ _ h => h) ?_ ?_ ?_; rotate_left; kernel_rfl; kernel_rfl; kernel_rfl; (focus (refine Or.inl ⟨by rfl, ?_⟩; intro w' hSw; (try dsimp only at hSw); go_simp)); exact hH) | (refine wpAnyH_take (i := 18) (v := ?_) rfl ?_ ?_ ?_ (fun _ _ _ h => h) ?_ ?_ ?_; rotate_left; kernel_rfl; kernel_rfl; kernel_rfl; (focus (refine Or.inl ⟨by rfl, ?_⟩; intro w' hSw; (try dsimp only at hSw); go_simp; with_reducible rfl)); exact hH)
                                try simp only [Act.put, List.getElem_toArray, List.getElem_cons_succ, List.getElem_cons_zero, List.setIfInBounds_toArray, List.set_cons_zero, List.set_cons_succ]
                                first | (refine wpAnyH_take (i := 19) (v := undef) rfl ?_ ?_ ?_ (fun _ _ _ h => h) ?_ ?_ ?_; kernel_rfl; kernel_rfl; kernel_rfl; exact Or.inr ⟨by rfl, rfl⟩; exact hH) | (refine wpAnyH_take (i := 19) (v := ?_) rfl ?_ ?_ ?_ (fun _ _ _ h => h) ?_ ?_ ?_; rotate_left; kernel_rfl; kernel_rfl; kernel_rfl; (focus (refine Or.inl ⟨by rfl, ?_⟩; intro w' hSw; (try dsimp only at hSw); go_simp)); exact hH) | (refine wpAnyH_take (i := 19) (v := ?_) rfl ?_ ?_ ?_ (fun _ _ _ h => h) ?_ ?_ ?_; rotate_left; kernel_rfl; kernel_rfl; kernel_rfl; (focus (refine Or.inl ⟨by rfl, ?_⟩; intro w' hSw; (try dsimp only at hSw); go_simp; with_reducible rfl)); exact hH)
                                try simp only [Act.put, List.getElem_toArray, List.getElem_cons_succ, List.getElem_cons_zero, List.setIfInBounds_toArray, List.set_cons_zero, List.set_cons_succ]
                                first | (refine wpAnyH_take (i := 20) (v := undef) rfl ?_ ?_ ?_ (fun _ _ _ h => h) ?_ ?_ ?_; kernel_rfl; kernel_rfl; kernel_rfl; exact Or.inr ⟨by rfl, rfl⟩; exact hH) | (refine wpAnyH_take (i := 20) (v := ?_) rfl ?_ ?_ ?_ (fun _ _ _ h => h) ?_ ?_ ?_; rotate_left; kernel_rfl; kernel_rfl; kernel_rfl; (focus (refine Or.inl ⟨by rfl, ?_⟩; intro w' hSw; (try dsimp only at hSw); go_simp)); exact hH) | (refine wpAnyH_take (i := 20) (v := ?_) rfl ?_ ?_ ?_ (fun _ _ _ h => h) ?_ ?_ ?_; rotate_left; kernel_rfl; kernel_rfl; kernel_rfl; (focus (refine Or.inl ⟨by rfl, ?_⟩; intro w' hSw; (try dsimp only at hSw); go_simp; with_reducible rfl)); exact hH)
                                try simp only [Act.put, List.getElem_toArray, List.getElem_cons_succ, List.getElem_cons_zero, List.setIfInBounds_toArray, List.set_cons_zero, List.set_cons_succ]
                                first | (refine wpAnyH_take (i := 22) (v := undef) rfl ?_ ?_ ?_ (fun _ _ _ h => h) ?_ ?_ ?_; kernel_rfl; kernel_rfl; kernel_rfl; exact Or.inr ⟨by rfl, rfl⟩; exact hH) | (refine wpAnyH_take (i := 22) (v := ?_) rfl ?_ ?_ ?_ (fun _ _ _ h => h) ?_ ?_ ?_; rotate_left; kernel_rfl; kernel_rfl; kernel_rfl; (focus (refine Or.inl ⟨by rfl, ?_⟩; intro w' hSw; (try dsimp only at hSw); go_simp)); exact hH) | (refine wpAnyH_take (i := 22) (v := ?_) rfl ?_ ?_ ?_ (fun _ _ _ h => h) ?_ ?_ ?_; rotate_left; kernel_rfl; kernel_rfl; kernel_rfl; (focus (refine Or.inl ⟨by rfl, ?_⟩; intro w' hSw; (try dsimp only at hSw); go_simp; with_reducible rfl)); exact hH)
                                try simp only [Act.put, List.getElem_toArray, List.getElem_cons_succ, List.getElem_cons_zero, List.setIfInBounds_toArray, List.set_cons_zero, List.set_cons_succ]
                                first | (refine wpAnyH_take (i := 23) (v := undef) rfl ?_ ?_ ?_ (fun _ _ _ h => h) ?_ ?_ ?_; kernel_rfl; kernel_rfl; kernel_rfl; exact Or.inr ⟨by rfl, rfl⟩; exact hH) | (refine wpAnyH_take (i := 23) (v := ?_) rfl ?_ ?_ ?_ (fun _ _ _ h => h) ?_ ?_ ?_; rotate_left; kernel_rfl; kernel_rfl; kernel_rfl; (focus (refine Or.inl ⟨by rfl, ?_⟩; intro w' hSw; (try dsimp only at hSw); go_simp)); exact hH) | (refine wpAnyH_take (i := 23) (v := ?_) rfl ?_ ?_ ?_ (fun _ _ _ h => h) ?_ ?_ ?_; rotate_left; kernel_rfl; kernel_rfl; kernel_rfl; (focus (refine Or.inl ⟨by rfl, ?_⟩; intro w' hSw; (try dsimp only at hSw); go_simp; with_reducible rfl)); exact hH)
                                try simp only [Act.put, List.getElem_toArray, List.getElem_cons_succ, List.getElem_cons_zero, List.setIfInBounds_toArray, List.set_cons_zero, List.set_cons_succ]
                                refine wpAnyH_ready (rs := [12]) (by kernel_rfl) (by simp) ?_
                                refine (AllReadyH.cons rfl (fun K hK => ?_) AllReadyH.nil)
                                go_simp
                                with_reducible refine (SA.out _).mono ?_
                                rintro e w1 ⟨rfl, hb1'⟩
                                have hb1 : Below (wq.heap.size) wq w1 := below_next hH.2 hb1'
                                try go_wp2_with fail
                                refine hK.out _ _ (KS.out _ hb1) (fun hH1 => ?_)
                                clear hK K hH
                                have hH := hH1
                                clear hH1
                                try simp only [Act.put, List.getElem_toArray, List.getElem_cons_succ, List.getElem_cons_zero, List.setIfInBounds_toArray, List.set_cons_zero, List.set_cons_succ]
                                refine wpAnyH_ready (rs := [21]) (by kernel_rfl) (by simp) ?_
                                refine (AllReadyH.cons rfl (fun K hK => ?_) AllReadyH.nil)
                                go_simp
                                with_reducible refine (SB.out _).mono ?_
                                rintro e w2 ⟨rfl, hb2'⟩
                                have hb2 : Below (wq.heap.size) wq w2 := below_next hH.2 hb2'
                                try go_wp2_with fail
                                refine hK.out _ _ (KS.out _ hb2) (fun hH2 => ?_)
                                clear hK K hH
                                have hH := hH2
                                clear hH2
                                try simp only [Act.put, List.getElem_toArray, List.getElem_cons_succ, List.getElem_cons_zero, List.setIfInBounds_toArray, List.set_cons_zero, List.set_cons_succ]
                                refine wpAnyH_ready (rs := [24]) (by kernel_rfl) (by simp) ?_
                                refine (AllReadyH.cons rfl (fun K hK => ?_) AllReadyH.nil)
                                go_simp
                                with_reducible refine (WI.out _).mono ?_
                                rintro e w3 ⟨rfl, hb3'⟩
                                have hb3 : Below (wq.heap.size) wq w3 := below_next hH.2 hb3'
                                try go_wp2_with fail
                                refine hK.out _ _ (KS.out _ hb3) (fun hH3 => ?_)
                                clear hK K hH
                                have hH := hH3
                                clear hH3
                                try simp only [Act.put, List.getElem_toArray, List.getElem_cons_succ, List.getElem_cons_zero, List.setIfInBounds_toArray, List.set_cons_zero, List.set_cons_succ]
                                first | (refine wpAnyH_take (i := 25) (v := undef) rfl ?_ ?_ ?_ (fun _ _ _ h => h) ?_ ?_ ?_; kernel_rfl; kernel_rfl; kernel_rfl; exact Or.inr ⟨by rfl, rfl⟩; exact hH) | (refine wpAnyH_take (i := 25) (v := ?_) rfl ?_ ?_ ?_ (fun _ _ _ h => h) ?_ ?_ ?_; rotate_left; kernel_rfl; kernel_rfl; kernel_rfl; (focus (refine Or.inl ⟨by rfl, ?_⟩; intro w' hSw; (try dsimp only at hSw); go_simp)); exact hH) | (refine wpAnyH_take (i := 25) (v := ?_) rfl ?_ ?_ ?_ (fun _ _ _ h => h) ?_ ?_ ?_; rotate_left; kernel_rfl; kernel_rfl; kernel_rfl; (focus (refine Or.inl ⟨by rfl, ?_⟩; intro w' hSw; (try dsimp only at hSw); go_simp; with_reducible rfl)); exact hH)
                                try simp only [Act.put, List.getElem_toArray, List.getElem_cons_succ, List.getElem_cons_zero, List.setIfInBounds_toArray, List.set_cons_zero, List.set_cons_succ]
                                first | (refine wpAnyH_take (i := 26) (v := undef) rfl ?_ ?_ ?_ (fun _ _ _ h => h) ?_ ?_ ?_; kernel_rfl; kernel_rfl; kernel_rfl; exact Or.inr ⟨by rfl, rfl⟩; exact hH) | (refine wpAnyH_take (i := 26) (v := ?_) rfl ?_ ?_ ?_ (fun _ _ _ h => h) ?_ ?_ ?_; rotate_left; kernel_rfl; kernel_rfl; kernel_rfl; (focus (refine Or.inl ⟨by rfl, ?_⟩; intro w' hSw; (try dsimp only at hSw); go_simp)); exact hH) | (refine wpAnyH_take (i := 26) (v := ?_) rfl ?_ ?_ ?_ (fun _ _ _ h => h) ?_ ?_ ?_; rotate_left; kernel_rfl; kernel_rfl; kernel_rfl; (focus (refine Or.inl ⟨by rfl, ?_⟩; intro w' hSw; (try dsimp only at hSw); go_simp; with_reducible rfl)); exact hH)
                                try simp only [Act.put, List.getElem_toArray, List.getElem_cons_succ, List.getElem_cons_zero, List.setIfInBounds_toArray, List.set_cons_zero, List.set_cons_succ]
                                refine wpAnyH_done (by kernel_rfl) ?_ _
                                refine NoPanic.normal ?_
                                clear hH
                                have hbG := hb3
                                try clear hH
                                have H7 := Lib.hid (And.intro (H6.out.1.next hbG) (H6.out.2.next hbG))
                                go_wp2_with fail
                                go_roundg gm
                                case rel => exact ⟨i + 1, M', U3.gain (j : Int) gg, g4, by have := HII.out; omega, by go_num, rfl, H7.out.1, HN4.out.2.1.more (by omega), HN4.out.1, HN4.out.2.2.1, H7.out.2, HBD4.out, fun h => HN4.out.2.2.2 (by omega)⟩
                                case measure => omega

                              · have q1 : decide ((bg : Int) ≤ (i : Int)) = false := decide_eq_false (by omega)
                                have q2 : decide (bg ≤ i) = false := decide_eq_false q
                                have HQ := Lib.hid q
                                clear q
                                go_upto_region 40 with (fail)
                                go_region
                                have H7 := Lib.hid (And.intro (H6.out.1.next (below_of_drew (Below.refl wq.heap.size wq))) (H6.out.2.next (below_of_drew (Below.refl wq.heap.size wq))))
                                go_wp2_with fail
                                go_roundg gm
                                case rel => exact ⟨i + 1, M', U3.gain (j : Int) gg, g4, by have := HII.out; omega, by go_num, rfl, H7.out.1, HN4.out.2.1.more (by omega), HN4.out.1, HN4.out.2.2.1, H7.out.2, HBD4.out, fun h => absurd (by omega) HQ.out⟩
                                case measure => omega

        · obtain rfl : gk = 0 := by omega
          have d1 : decide ((i : Int) < (n : Int)) = false := decide_eq_false (by omega)
          have d2 : decide (i < n) = false := decide_eq_false hlt
          clear hlt
          go_wp2_with fail
          go_ret
          exact ⟨by simp, HB.out.trans (HF.out.1.below.mono HB.out.size)⟩

end Go.Proofs.YtjhffbhjiflfeaaGreat
