/-
  AugAnew holds.
-/
import Derived.Test.YtjlnbpomncglcaaProg
import Derived.Test.YtjlnbpomncglcaaAugI
namespace Go.Proofs.Ytjlnbpomncglcaa
set_option linter.unusedVariables false
set_option linter.unusedSimpArgs false
set_option maxRecDepth 100000
open Go.RowKit Go.Shelf

set_option maxHeartbeats 16000000 in
theorem augAnew_walk (w : World) (A : Option Addr) (n c : Nat) (I : Nat → Int) (fI : ∀ i, i < n → (Lit.int .i64 (I i)).wf = true) (K : Nat → Int) (fK : ∀ i, i < n → (Lit.int .u64 (K i)).wf = true) (V : Nat → Int) (fV : ∀ i, i < n → (Lit.int .u64 (V i)).wf = true) (D : Nat → Bool) (P : Nat → Int) (fP : ∀ i, i < n → (Lit.int .u64 (P i)).wf = true) (Q : Nat → Int) (fQ : ∀ i, i < n → (Lit.int .u64 (Q i)).wf = true) (hl : n ≤ c) (hm : c ≤ maxLen)
    (hA : 0 < n → ∃ b off, A = some ⟨b, off, none⟩ ∧ b < w.heap.size) (hI : ∀ b off, A = some ⟨b, off, none⟩ → ∀ i, i < n → w.cell? ⟨b, off + (i * 6 + 0), none⟩ = some (.int .i64 (I i))) (hK : ∀ b off, A = some ⟨b, off, none⟩ → ∀ i, i < n → w.cell? ⟨b, off + (i * 6 + 1), none⟩ = some (.int .u64 (K i))) (hV : ∀ b off, A = some ⟨b, off, none⟩ → ∀ i, i < n → w.cell? ⟨b, off + (i * 6 + 2), none⟩ = some (.int .u64 (V i))) (hD : ∀ b off, A = some ⟨b, off, none⟩ → ∀ i, i < n → w.cell? ⟨b, off + (i * 6 + 3), none⟩ = some (.bool (D i))) (hP : ∀ b off, A = some ⟨b, off, none⟩ → ∀ i, i < n → w.cell? ⟨b, off + (i * 6 + 4), none⟩ = some (.int .u64 (P i))) (hQ : ∀ b off, A = some ⟨b, off, none⟩ → ∀ i, i < n → w.cell? ⟨b, off + (i * 6 + 5), none⟩ = some (.int .u64 (Q i))) (b1 : Int) (fb1 : (Lit.int .i64 b1).wf = true) (b2 : Int) (fb2 : (Lit.int .u64 b2).wf = true) (b3 : Int) (fb3 : (Lit.int .u64 b3).wf = true) (b4 : Bool) (b5 : Int) (fb5 : (Lit.int .u64 b5).wf = true) (b6 : Int) (fb6 : (Lit.int .u64 b6).wf = true) (a1 : Int) (fa1 : (Lit.int .u64 a1).wf = true) (a2 : Int) (fa2 : (Lit.int .u64 a2).wf = true) :
    Calls Try.prog 13 #[.slice A n c, .agg #[.int .i64 b1, .int .u64 b2, .int .u64 b3, .bool b4, .int .u64 b5, .int .u64 b6], .int .u64 a1, .int .u64 a2] w fun e w' => e = .returned (.bool true) ∧ Below w.heap.size w w' := by
  have HA := Lib.hid (aacts_of hA hI hK hV hD hP hQ)
  clear hA hI hK hV hD hP hQ fI fK fV fP fQ hl hm; clear fb1 fb2 fb3 fb5 fb6 fa1 fa2
  obtain ⟨wb, hwb⟩ : ∃ x, w.alloc (.cells #[.int .i64 b1, .int .u64 b2, .int .u64 b3, .bool b4, .int .u64 b5, .int .u64 b6] 86) = x := ⟨_, rfl⟩
  have hbw : Below w.heap.size w wb := by rw [← hwb]; go_grown
  have bx : Blk wb w.heap.size 86 #[.int .i64 b1, .int .u64 b2, .int .u64 b3, .bool b4, .int .u64 b5, .int .u64 b6] := by rw [← hwb]; exact Blk.new w _ _
  have HBX := Lib.hid bx
  have HB0x := Lib.hid hbw
  have HEQ := Lib.hid hwb
  clear bx hbw hwb
  by_cases hn : 200 < n
  · go_enter Try.func13, Try.ntmps13
    go_wp2_with fail
    rw [HEQ.out]
    with_reducible refine (aug_awake wb).mono ?_
    rintro e w0 ⟨rfl, hb0⟩
    have HB0 := Lib.hid (below_next HB0x.out hb0)
    clear hb0
    go_wp2_with fail
    with_reducible refine (acted_many A n c w0 hn).mono ?_
    rintro e w1 ⟨rfl, hb1⟩
    have HB1 := Lib.hid (below_next HB0.out hb1)
    clear hb1
    go_wp2
    go_ret
    exact ⟨by simp, HB1.out⟩
  have HN := Lib.hid (show n ≤ 200 by omega)
  clear hn
  go_enter Try.func13, Try.ntmps13
  go_wp2_with fail
  rw [HEQ.out]
  with_reducible refine (aug_awake wb).mono ?_
  rintro e w0 ⟨rfl, hb0⟩
  have HB0 := Lib.hid hb0
  clear hb0
  go_wp2_with fail
  with_reducible refine (acted_any A n c I K V D P Q w0 ((HA.out.next HB0x.out).next HB0.out) HN.out).mono ?_
  rintro e w1 ⟨U, rfl, hu⟩
  have HL : Hid ((actsA I K V D n).length ≤ 200) := Nat.le_trans (actsA_len I K V D n) HN.out
  obtain ⟨L, hL⟩ : ∃ x, actsA I K V D n = x := ⟨_, rfl⟩
  rw [hL] at hu HL
  clear hL
  obtain ⟨S, hs1, hs2, hs3⟩ := hu
  have HU := Lib.hid (And.intro hs1 (And.intro (fun j hj => Nat.le_trans HB0.out.size (hs2 j hj) : ∀ j, S j → wb.heap.size ≤ j) (show Below wb.heap.size wb w1 from HB0.out.trans (hs3.mono HB0.out.size))))
  have HRS : Hid (Rises L ∧ Once L) := ⟨hs1.rises, hs1.once⟩
  clear hs1 hs2 hs3
  go_wp2_with fail
  with_reducible refine (ag_copy U S L w1 HU.out.1).mono ?_
  rintro e w2 ⟨U1, S1, rfl, hc, hs, hb⟩
  have HC1 := Lib.hid (And.intro hc (And.intro hs hb))
  clear hc hs hb
  go_wp2_with fail
  with_reducible refine (ag_copy U S L w2 (HU.out.1.next HC1.out.2.2)).mono ?_
  rintro e w4 ⟨U2, S2, rfl, hc, hs, hb⟩
  have htrio : Trio wb w4 S S1 S2 U U1 U2 L L L := ⟨(HU.out.1.next HC1.out.2.2).next hb, HC1.out.1.next hb, hc, fun j hj e => by have := HU.out.1.lt j hj; have := HC1.out.2.1 j e; omega, fun j hj e => by have := HU.out.1.lt j hj; have := hs j e; have := HC1.out.2.2.size; omega, fun j hj e => by have := HC1.out.1.lt j hj; have := hs j e; omega, HU.out.2.1, fun j hj => Nat.le_trans HU.out.2.2.size (HC1.out.2.1 j hj), fun j hj => Nat.le_trans HU.out.2.2.size (Nat.le_trans HC1.out.2.2.size (hs j hj)), below_next (below_next HU.out.2.2 HC1.out.2.2) hb⟩
  clear hc hs hb HC1
  have HT0 := Lib.hid htrio
  have HW0 : Hid (Below wb.heap.size wb w4) := HT0.out.below
  clear htrio
  obtain ⟨SA, rfl⟩ : ∃ x, x = S1 := ⟨_, rfl⟩
  obtain ⟨SB, rfl⟩ : ∃ x, x = S2 := ⟨_, rfl⟩
  have hba := HBX.out.next (HW0.out)
  have x0 := hba.get 0 rfl
  clear hba
  go_wp2_with fail
  with_reducible refine (ag_put U1 SA L b1 a1 a2 w4 HT0.out.a (by have := HL.out; omega)).mono ?_
  rintro e w5 ⟨rfl, hk⟩
  obtain ⟨SA', hk⟩ := HT0.out.stepA hk
  obtain ⟨SA, rfl⟩ : ∃ x, x = SA' := ⟨_, rfl⟩
  clear x0
  have HT1 := Lib.hid hk
  have HW1 : Hid (Below wb.heap.size wb w5) := HT1.out.below
  clear hk
  have hba := HBX.out.next (HW1.out)
  have x0 := hba.get 0 rfl
  have x1 := hba.get 1 rfl
  have x2 := hba.get 2 rfl
  clear hba
  go_wp2_with fail
  with_reducible refine (ag_put U2 SB L b1 b2 b3 w5 HT1.out.b (by have := HL.out; omega)).mono ?_
  rintro e w6 ⟨rfl, hk⟩
  obtain ⟨SB', hk⟩ := HT1.out.stepB hk
  obtain ⟨SB, rfl⟩ : ∃ x, x = SB' := ⟨_, rfl⟩
  clear x0 x1 x2
  have HT2 := Lib.hid hk
  have HW2 : Hid (Below wb.heap.size wb w6) := HT2.out.below
  clear hk
  have hba := HBX.out.next (HW2.out)
  have x0 := hba.get 0 rfl
  clear hba
  go_wp2_with fail
  with_reducible refine (ag_put U2 SB _ b1 a1 a2 w6 HT2.out.b (by have := aput_len b1 b2 b3 L; have := HL.out; omega)).mono ?_
  rintro e w7 ⟨rfl, hk⟩
  obtain ⟨SB', hk⟩ := HT2.out.stepB hk
  obtain ⟨SB, rfl⟩ : ∃ x, x = SB' := ⟨_, rfl⟩
  clear x0
  have HT3 := Lib.hid hk
  have HW3 : Hid (Below wb.heap.size wb w7) := HT3.out.below
  clear hk
  rw [aput_twice] at HT3
  have HM3 : Hid ((aput b1 a1 a2 L).length ≤ 201 ∧ agK b1 (aput b1 a1 a2 L) = a1 ∧ agV b1 (aput b1 a1 a2 L) = a2 ∧ agIs b1 (aput b1 a1 a2 L) = true ∧ dropId b1 (aput b1 a1 a2 L) = dropId b1 L) := by have h1 := aput_len b1 a1 a2 L; have h2 := HL.out; have h3 := agIs_aput b1 a1 a2 HRS.out.2; exact ⟨by omega, h3.1, h3.2.1, h3.2.2, dropId_aput b1 a1 a2 L⟩
  obtain ⟨M, hM⟩ : ∃ x, aput b1 a1 a2 L = x := ⟨_, rfl⟩
  rw [hM] at HT3 HM3
  clear hM
  obtain ⟨m, hm⟩ : ∃ x, M.length = x := ⟨_, rfl⟩
  have HMM := Lib.hid hm
  clear hm
  have GQ := Lib.hid (ag_get U2 SB M b1 w7 HT3.out.b)
  rw [HM3.out.2.1, HM3.out.2.2.1, HM3.out.2.2.2.1] at GQ
  have hba := HBX.out.next (HW3.out)
  have x0 := hba.get 0 rfl
  clear hba
  go_wp2_with fail
  with_reducible refine (GQ.out).mono ?_
  rintro e w8 ⟨rfl, hb⟩
  clear x0
  have HT4 := Lib.hid (HT3.out.next hb)
  have HW4 : Hid (Below wb.heap.size wb w8) := HT4.out.below
  clear hb
  clear GQ
  have HLE1 : Hid (m ≤ 201) := by have := HM3.out.1; rw [HMM.out] at this; exact this
  have IA1 := Lib.hid (ag_ids U1 SA M w8 HT4.out.a (by have := HM3.out.1; omega))
  go_wp2_with fail
  with_reducible refine (IA1.out).mono ?_
  rintro e w9 ⟨v, rfl, hv, hb⟩
  obtain ⟨A1, c1, rfl, -, -, hi⟩ := ints_of_own hv
  rw [HMM.out] at hi ⊢
  have HT5 := Lib.hid (HT4.out.next hb)
  have HW5 : Hid (Below wb.heap.size wb w9) := HT5.out.below
  have HIa1 := Lib.hid hi
  clear hv hi hb IA1
  have IB1 := Lib.hid (ag_ids U2 SB M w9 HT5.out.b (by have := HM3.out.1; omega))
  go_wp2_with fail
  with_reducible refine (IB1.out).mono ?_
  rintro e w10 ⟨v, rfl, hv, hb⟩
  obtain ⟨B1, d1, rfl, -, -, hi⟩ := ints_of_own hv
  rw [HMM.out] at hi ⊢
  have HT6 := Lib.hid (HT5.out.next hb)
  have HW6 : Hid (Below wb.heap.size wb w10) := HT6.out.below
  have HIb1 := Lib.hid (And.intro (HIa1.out.next hb) hi)
  clear hv hi hb IB1
  have SM1 := Lib.hid (ints_same A1 B1 _ c1 d1 (idAt M) w10 HIb1.out.1 HIb1.out.2 (by have := HL.out; have := HLE1.out; omega))
  go_wp2_with fail
  with_reducible refine (SM1.out).mono ?_
  rintro e w11 ⟨rfl, hb⟩
  have HT7 := Lib.hid (HT6.out.next hb)
  have HW7 : Hid (Below wb.heap.size wb w11) := HT7.out.below
  clear hb
  clear SM1
  obtain ⟨yleast, hy⟩ : ∃ x, ((uptoH b5 M).getD (0, 0)).2 = x := ⟨_, rfl⟩
  obtain ⟨zleast, hz⟩ : ∃ x, (uptoH b5 M).isSome = x := ⟨_, rfl⟩
  have QAleast := Lib.hid (fun S U w h => ag_least U S M b5 w h)
  rw [hy, hz] at QAleast
  clear hy hz
  have hba := HBX.out.next (HW7.out)
  have x4 := hba.get 4 rfl
  clear hba
  go_wp2_with fail
  with_reducible refine (QAleast.out SA U1 w11 HT7.out.a).mono ?_
  rintro e w12 ⟨rfl, hb⟩
  clear x4
  have HT8 := Lib.hid (HT7.out.next hb)
  have HW8 : Hid (Below wb.heap.size wb w12) := HT8.out.below
  clear hb
  have hba := HBX.out.next (HW8.out)
  have x4 := hba.get 4 rfl
  clear hba
  go_wp2_with fail
  with_reducible refine (QAleast.out SB U2 w12 HT8.out.b).mono ?_
  rintro e w13 ⟨rfl, hb⟩
  clear x4
  have HT9 := Lib.hid (HT8.out.next hb)
  have HW9 : Hid (Below wb.heap.size wb w13) := HT9.out.below
  clear hb
  obtain ⟨ywithin, hy⟩ : ∃ x, ((findTo b6 M).getD (0, 0)).2 = x := ⟨_, rfl⟩
  obtain ⟨zwithin, hz⟩ : ∃ x, (findTo b6 M).isSome = x := ⟨_, rfl⟩
  have QAwithin := Lib.hid (fun S U w h => ag_within U S M b6 w h)
  rw [hy, hz] at QAwithin
  clear hy hz
  have hba := HBX.out.next (HW9.out)
  have x5 := hba.get 5 rfl
  clear hba
  go_wp2_with fail
  with_reducible refine (QAwithin.out SA U1 w13 HT9.out.a).mono ?_
  rintro e w14 ⟨rfl, hb⟩
  clear x5
  have HT10 := Lib.hid (HT9.out.next hb)
  have HW10 : Hid (Below wb.heap.size wb w14) := HT10.out.below
  clear hb
  have hba := HBX.out.next (HW10.out)
  have x5 := hba.get 5 rfl
  clear hba
  go_wp2_with fail
  with_reducible refine (QAwithin.out SB U2 w14 HT10.out.b).mono ?_
  rintro e w15 ⟨rfl, hb⟩
  clear x5
  have HT11 := Lib.hid (HT10.out.next hb)
  have HW11 : Hid (Below wb.heap.size wb w15) := HT11.out.below
  clear hb
  go_wp2_with fail
  with_reducible refine (ag_copy U S L w15 HT11.out.t).mono ?_
  rintro e w16 ⟨U3, S3, rfl, hc, hs, hb⟩
  have HT12 := Lib.hid (HT11.out.copy hc hs hb)
  have HW12 : Hid (Below wb.heap.size wb w16) := HT12.out.below
  clear hc hs hb
  obtain ⟨bq, hbq⟩ : ∃ b, agIs b1 L = b := ⟨_, rfl⟩
  have DQ := Lib.hid (ag_drop U3 S3 L b1 w16 HT12.out.a (by have := HL.out; omega))
  rw [hbq] at DQ
  clear hbq
  have hba := HBX.out.next (HW12.out)
  have x0 := hba.get 0 rfl
  clear hba
  go_wp2_with fail
  with_reducible refine (DQ.out).mono ?_
  rintro e w17 ⟨rfl, hk⟩
  obtain ⟨S3', hk⟩ := HT12.out.stepA hk
  obtain ⟨SA, rfl⟩ : ∃ x, x = S3' := ⟨_, rfl⟩
  clear x0
  have HT13 := Lib.hid hk
  have HW13 : Hid (Below wb.heap.size wb w17) := HT13.out.below
  clear hk DQ
  have DQ := Lib.hid (ag_drop U2 SB M b1 w17 HT13.out.b (by have := HM3.out.1; omega))
  rw [HM3.out.2.2.2.1, HM3.out.2.2.2.2] at DQ
  have hba := HBX.out.next (HW13.out)
  have x0 := hba.get 0 rfl
  clear hba
  go_wp2_with fail
  with_reducible refine (DQ.out).mono ?_
  rintro e w18 ⟨rfl, hk⟩
  obtain ⟨SB', hk⟩ := HT13.out.stepB hk
  obtain ⟨SB, rfl⟩ : ∃ x, x = SB' := ⟨_, rfl⟩
  clear x0
  have HT14 := Lib.hid hk
  have HW14 : Hid (Below wb.heap.size wb w18) := HT14.out.below
  clear hk
  clear DQ
  have HLD : Hid ((dropId b1 L).length ≤ 200 ∧ agIs b1 (dropId b1 L) = false ∧ dropId b1 (dropId b1 L) = dropId b1 L) := ⟨Nat.le_trans (dropId_len b1 L) HL.out, agIs_dropped b1 L, dropId_twice b1 L⟩
  obtain ⟨N, hN⟩ : ∃ x, dropId b1 L = x := ⟨_, rfl⟩
  rw [hN] at HLD HT14
  clear hN
  obtain ⟨r, hr⟩ : ∃ x, N.length = x := ⟨_, rfl⟩
  have HRR := Lib.hid hr
  clear hr
  have DQ := Lib.hid (ag_drop U2 SB N b1 w18 HT14.out.b (by have := HLD.out.1; omega))
  rw [HLD.out.2.1, HLD.out.2.2] at DQ
  have hba := HBX.out.next (HW14.out)
  have x0 := hba.get 0 rfl
  clear hba
  go_wp2_with fail
  with_reducible refine (DQ.out).mono ?_
  rintro e w19 ⟨rfl, hk⟩
  obtain ⟨SB', hk⟩ := HT14.out.stepB hk
  obtain ⟨SB, rfl⟩ : ∃ x, x = SB' := ⟨_, rfl⟩
  clear x0
  have HT15 := Lib.hid hk
  have HW15 : Hid (Below wb.heap.size wb w19) := HT15.out.below
  clear hk
  clear DQ
  have HLE2 : Hid (r ≤ 201) := by have := HLD.out.1; rw [HRR.out] at this; exact Nat.le_succ_of_le this
  have IA2 := Lib.hid (ag_ids U3 SA N w19 HT15.out.a (by have := HLD.out.1; omega))
  go_wp2_with fail
  with_reducible refine (IA2.out).mono ?_
  rintro e w20 ⟨v, rfl, hv, hb⟩
  obtain ⟨A2, c2, rfl, -, -, hi⟩ := ints_of_own hv
  rw [HRR.out] at hi ⊢
  have HT16 := Lib.hid (HT15.out.next hb)
  have HW16 : Hid (Below wb.heap.size wb w20) := HT16.out.below
  have HIa2 := Lib.hid hi
  clear hv hi hb IA2
  have IB2 := Lib.hid (ag_ids U2 SB N w20 HT16.out.b (by have := HLD.out.1; omega))
  go_wp2_with fail
  with_reducible refine (IB2.out).mono ?_
  rintro e w21 ⟨v, rfl, hv, hb⟩
  obtain ⟨B2, d2, rfl, -, -, hi⟩ := ints_of_own hv
  rw [HRR.out] at hi ⊢
  have HT17 := Lib.hid (HT16.out.next hb)
  have HW17 : Hid (Below wb.heap.size wb w21) := HT17.out.below
  have HIb2 := Lib.hid (And.intro (HIa2.out.next hb) hi)
  clear hv hi hb IB2
  have SM2 := Lib.hid (ints_same A2 B2 _ c2 d2 (idAt N) w21 HIb2.out.1 HIb2.out.2 (by have := HL.out; have := HLE2.out; omega))
  go_wp2_with fail
  with_reducible refine (SM2.out).mono ?_
  rintro e w22 ⟨rfl, hb⟩
  have HT18 := Lib.hid (HT17.out.next hb)
  have HW18 : Hid (Below wb.heap.size wb w22) := HT18.out.below
  clear hb
  clear SM2
  obtain ⟨yl, hy⟩ : ∃ x, ((sumFrom ofH minH none N).getD (0, 0)).1 = x := ⟨_, rfl⟩
  obtain ⟨zl, hz⟩ : ∃ x, (!List.isEmpty N) = x := ⟨_, rfl⟩
  have QL := Lib.hid (fun S U w h => ag_lowest U S N w h)
  rw [hy, hz] at QL
  clear hy hz
  go_wp2_with fail
  with_reducible refine (QL.out SA U3 w22 HT18.out.a).mono ?_
  rintro e w23 ⟨rfl, hb⟩
  have HT19 := Lib.hid (HT18.out.next hb)
  have HW19 : Hid (Below wb.heap.size wb w23) := HT19.out.below
  clear hb
  go_wp2_with fail
  with_reducible refine (QL.out SB U2 w23 HT19.out.b).mono ?_
  rintro e w24 ⟨rfl, hb⟩
  have HT20 := Lib.hid (HT19.out.next hb)
  have HW20 : Hid (Below wb.heap.size wb w24) := HT20.out.below
  clear hb
  go_wp2
  go_ret
  exact ⟨by simp, HB0x.out.trans (HT20.out.below.mono HB0x.out.size)⟩

end Go.Proofs.Ytjlnbpomncglcaa

