/-
  AugOrder holds.
-/
import Derived.Test.YtjlnbpomncglcaaProg
import Derived.Test.YtjlnbpomncglcaaAugG
namespace Go.Proofs.Ytjlnbpomncglcaa
set_option linter.unusedVariables false
set_option linter.unusedSimpArgs false
set_option maxRecDepth 100000
open Go.RowKit Go.Shelf

set_option maxHeartbeats 16000000 in
theorem augOrder_walk (w : World) (A : Option Addr) (n c : Nat) (I : Nat → Int) (fI : ∀ i, i < n → (Lit.int .i64 (I i)).wf = true) (K : Nat → Int) (fK : ∀ i, i < n → (Lit.int .u64 (K i)).wf = true) (V : Nat → Int) (fV : ∀ i, i < n → (Lit.int .u64 (V i)).wf = true) (D : Nat → Bool) (P : Nat → Int) (fP : ∀ i, i < n → (Lit.int .u64 (P i)).wf = true) (Q : Nat → Int) (fQ : ∀ i, i < n → (Lit.int .u64 (Q i)).wf = true) (hl : n ≤ c) (hm : c ≤ maxLen)
    (hA : 0 < n → ∃ b off, A = some ⟨b, off, none⟩ ∧ b < w.heap.size) (hI : ∀ b off, A = some ⟨b, off, none⟩ → ∀ i, i < n → w.cell? ⟨b, off + (i * 6 + 0), none⟩ = some (.int .i64 (I i))) (hK : ∀ b off, A = some ⟨b, off, none⟩ → ∀ i, i < n → w.cell? ⟨b, off + (i * 6 + 1), none⟩ = some (.int .u64 (K i))) (hV : ∀ b off, A = some ⟨b, off, none⟩ → ∀ i, i < n → w.cell? ⟨b, off + (i * 6 + 2), none⟩ = some (.int .u64 (V i))) (hD : ∀ b off, A = some ⟨b, off, none⟩ → ∀ i, i < n → w.cell? ⟨b, off + (i * 6 + 3), none⟩ = some (.bool (D i))) (hP : ∀ b off, A = some ⟨b, off, none⟩ → ∀ i, i < n → w.cell? ⟨b, off + (i * 6 + 4), none⟩ = some (.int .u64 (P i))) (hQ : ∀ b off, A = some ⟨b, off, none⟩ → ∀ i, i < n → w.cell? ⟨b, off + (i * 6 + 5), none⟩ = some (.int .u64 (Q i))) :
    Calls Try.prog 12 #[.slice A n c] w fun e w' => e = .returned (.bool true) ∧ Below w.heap.size w w' := by
  have HA := Lib.hid (aacts_of hA hI hK hV hD hP hQ)
  have HMX : Hid (∀ i, i < n → K i ≤ 18446744073709551615) := fun i hi => by have := fK i hi; have e : IntKind.u64.max = 18446744073709551615 := rfl; simp [Lit.wf] at this; omega
  clear hA hI hK hV hD hP hQ fI fK fV fP fQ hl hm
  by_cases hn : 200 < n
  · go_enter Try.func12, Try.ntmps12
    go_wp2_with fail
    with_reducible refine (aug_awake w).mono ?_
    rintro e w0 ⟨rfl, hb0⟩
    have HB0 := Lib.hid hb0
    clear hb0
    go_wp2_with fail
    with_reducible refine (acted_many A n c w0 hn).mono ?_
    rintro e w1 ⟨rfl, hb1⟩
    have HB1 := Lib.hid (below_next HB0.out hb1)
    clear hb1
    go_wp2
    go_ret
    exact ⟨by simp, HB1.out⟩
  have HN := Lib.hid (show n ≤ 200 by omega)
  clear hn
  go_enter Try.func12, Try.ntmps12
  go_wp2_with fail
  with_reducible refine (aug_awake w).mono ?_
  rintro e w0 ⟨rfl, hb0⟩
  have HB0 := Lib.hid hb0
  clear hb0
  go_wp2_with fail
  with_reducible refine (acted_any A n c I K V D P Q w0 (HA.out.next HB0.out) HN.out).mono ?_
  rintro e w1 ⟨U, rfl, hu⟩
  have HL : Hid ((actsA I K V D n).length ≤ 200) := Nat.le_trans (actsA_len I K V D n) HN.out
  have HKM : Hid (∀ p ∈ actsA I K V D n, p.1.1 ≤ 18446744073709551615) := actsA_keys HMX.out n (Nat.le_refl _)
  obtain ⟨L, hL⟩ : ∃ x, actsA I K V D n = x := ⟨_, rfl⟩
  rw [hL] at hu HL HKM
  clear hL
  obtain ⟨S, hs1, hs2, hs3⟩ := hu
  have HU := Lib.hid hs1
  have HB1 : Hid (Below w.heap.size w w1) := HB0.out.trans (hs3.mono HB0.out.size)
  have HRS : Hid (Rises L ∧ Once L) := ⟨hs1.rises, hs1.once⟩
  clear hs1 hs2 hs3
  go_wp2_with fail
  with_reducible refine (ag_ids U S L w1 HU.out (by have := HL.out; omega)).mono ?_
  rintro e w2 ⟨v, rfl, hv, hb⟩
  obtain ⟨Ai, ci, rfl, -, -, hi⟩ := ints_of_own hv
  have HI := Lib.hid hi
  have HCw2 : Hid (Below w1.heap.size w1 w2) := hb
  clear hv hb hi
  obtain ⟨l, hll⟩ : ∃ l, L.length = l := ⟨_, rfl⟩
  rw [hll] at HI HL ⊢
  have HLL := Lib.hid hll
  clear hll
  go_wp2_with fail
  with_reducible refine (ag_first U S L w2 (HU.out.next HCw2.out)).mono ?_
  rintro e w3 ⟨rfl, hb⟩
  have HCw3 := Lib.hid (below_next HCw2.out hb)
  have HI3 := Lib.hid (HI.out.next hb)
  clear hb
  obtain ⟨z0, hz0⟩ : ∃ z, (firstK L).2 = z := ⟨_, rfl⟩
  obtain ⟨b0, hb0'⟩ : ∃ b, (!List.isEmpty L) = b := ⟨_, rfl⟩
  rw [hz0, hb0']
  have HZB := Lib.hid (And.intro hz0 hb0')
  clear hz0 hb0'
  go_upto_region 8 with (fail)
  go_cut [54] (fun tv wc => tv = .bool false ∧ Below w3.heap.size w3 wc)
  case first =>
    have LEN := Lib.hid (ag_len U S L w3 (HU.out.next HCw3.out))
    rw [HLL.out] at LEN
    rcases hLc : L with _ | ⟨p, L'⟩
    · obtain rfl : l = 0 := by rw [← HLL.out, hLc]; rfl
      obtain rfl : z0 = 0 := by rw [← HZB.out.1, hLc]; rfl
      obtain rfl : b0 = false := by rw [← HZB.out.2, hLc]; rfl
      clear hLc
      go_wp2_with fail
      with_reducible refine (LEN.out).mono ?_
      rintro e w4 ⟨rfl, hb⟩
      go_wp2_with fail
      go_meet
      exact ⟨by simp, hb⟩
    · have hlp : 0 < l := by rw [← HLL.out, hLc]; simp
      obtain rfl : b0 = true := by rw [← HZB.out.2, hLc]; rfl
      have q0 : (0 : Int) < (l : Int) := by omega
      have q1 : decide ((0 : Int) < (l : Int)) = true := decide_eq_true q0
      have q2 : decide (0 < l) = true := decide_eq_true hlp
      have HID : Hid (idAt L 0 = z0) := by rw [← HZB.out.1, hLc]; exact rfl
      clear hLc
      go_wp2_with fail
      with_reducible refine (LEN.out).mono ?_
      rintro e w4 ⟨rfl, hb⟩
      have HI4 := HI3.out.next hb
      obtain ⟨g, o, rfl, -⟩ := HI4.addr hlp
      have c0 := HI4.cells g o rfl 0 hlp
      rw [HID.out, Nat.add_zero] at c0
      have HB := Lib.hid hb
      clear HI4 hb
      go_wp2_with fail
      go_meet
      exact ⟨by simp, HB.out⟩
  case rest =>
    obtain ⟨rfl, hbc⟩ := hcut
    obtain ⟨w4, rfl⟩ : ∃ x : World, x = wc := ⟨_, rfl⟩
    have HC4 := Lib.hid (And.intro (below_next HCw3.out hbc) (HI3.out.next hbc))
    clear hbc
    go_wp2
    go_loopg [7] (l - 1) (fun gk ix wr => ∃ i : Nat, gk = l - i ∧ 1 ≤ i ∧ ix = .int .i64 i ∧ Below w4.heap.size w4 wr)
    case atStart => exact ⟨1, rfl, Nat.le_refl _, rfl, Below.refl _ _⟩
    case round =>
      obtain ⟨i, hi, hi1, rfl, hb⟩ := hrel
      obtain ⟨wo, rfl⟩ : ∃ x : World, x = wr := ⟨_, rfl⟩
      obtain ⟨go, rfl⟩ : ∃ x : Nat, x = gk := ⟨_, rfl⟩
      have HO : Hid (Below w1.heap.size w1 wo ∧ IntsAt wo Ai l (idAt L)) := ⟨below_next HC4.out.1 hb, HC4.out.2.next hb⟩
      have HBO := Lib.hid hb
      clear hb
      by_cases hlt : i < l
      · obtain ⟨j, rfl⟩ : ∃ j, i = j + 1 := ⟨i - 1, by omega⟩
        obtain ⟨⟨⟨k1, i1⟩, v1⟩, q1⟩ : ∃ p, L[j]? = some p := ⟨L[j]'(by rw [HLL.out]; omega), List.getElem?_eq_getElem _⟩
        obtain ⟨⟨⟨k2, i2⟩, v2⟩, q2⟩ : ∃ p, L[j + 1]? = some p := ⟨L[j + 1]'(by rw [HLL.out]; omega), List.getElem?_eq_getElem _⟩
        have hk := rises_step HRS.out.1 q1 q2
        have HQ1 := Lib.hid (And.intro q1 q2)
        have G1 := Lib.hid (fun w h => ag_get U S L i1 w h)
        have G2 := Lib.hid (fun w h => ag_get U S L i2 w h)
        rw [agK_at HRS.out.2 q1, agV_at HRS.out.2 q1, agIs_at HRS.out.2 q1] at G1
        rw [agK_at HRS.out.2 q2, agV_at HRS.out.2 q2, agIs_at HRS.out.2 q2] at G2
        obtain ⟨g, o, rfl, -⟩ := HO.out.2.addr (by omega)
        have c0 := HO.out.2.cells g o rfl j (by omega)
        have c1 := HO.out.2.cells g o rfl (j + 1) hlt
        rw [idAt_of q1] at c0
        rw [idAt_of q2] at c1
        have HLI := Lib.hid (And.intro hlt hi)
        have HKK := Lib.hid hk
        have p0 : (0 : Int) ≤ (j : Int) := by omega
        have p1 : (j : Int) < (l : Int) := by omega
        have p2 : (0 : Int) ≤ ((j + 1 : Nat) : Int) := by omega
        have p3 : ((j + 1 : Nat) : Int) < (l : Int) := by omega
        obtain ⟨ij, hij⟩ : ∃ x : Int, ((j + 1 : Nat) : Int) = x := ⟨_, rfl⟩
        have e5 : wrap64 (ij - 1) = (j : Int) := wrap_of' (by omega) (by have := HL.out; omega)
        have e6 : wrap64 (ij + 1) = ((j + 2 : Nat) : Int) := wrap_of' (by omega) (by have := HL.out; omega)
        rw [hij] at p2 p3 ⊢
        obtain ⟨zj, hzj⟩ : ∃ x : Int, (j : Int) = x := ⟨_, rfl⟩
        have HIJ := Lib.hid (And.intro hij hzj)
        have hc1 : wo.cell? ⟨g, o + ij.toNat, none⟩ = some (.int .i64 i2) := by rw [← hij]; exact c1
        have hc0 : wo.cell? ⟨g, o + zj.toNat, none⟩ = some (.int .i64 i1) := by rw [← hzj]; exact c0
        rw [hzj] at e5 p0 p1
        clear hk q1 q2 hlt hi hij hzj c0 c1 hi1
        go_wp2_with fail
        with_reducible refine (G1.out wo (HU.out.next HO.out.1)).mono ?_
        rintro e w5 ⟨rfl, hb⟩
        have HO5 := Lib.hid (And.intro (below_next HO.out.1 hb) (below_next HBO.out hb))
        have hc1 := (hb.cell (p := ⟨g, o + ij.toNat, none⟩) (World.block_lt_of_cell? _ _ hc1)).trans hc1
        have hc0 := (hb.cell (p := ⟨g, o + zj.toNat, none⟩) (World.block_lt_of_cell? _ _ hc0)).trans hc0
        have HCC := Lib.hid (And.intro hc0 hc1)
        clear hb
        go_wp2_with fail
        with_reducible refine (G2.out w5 (HU.out.next HO5.out.1)).mono ?_
        rintro e w6 ⟨rfl, hb⟩
        have HO6 := Lib.hid (And.intro (below_next HO5.out.1 hb) (below_next HO5.out.2 hb))
        have hc1 := (hb.cell (p := ⟨g, o + ij.toNat, none⟩) (World.block_lt_of_cell? _ _ HCC.out.2)).trans HCC.out.2
        have hc0 := (hb.cell (p := ⟨g, o + zj.toNat, none⟩) (World.block_lt_of_cell? _ _ HCC.out.1)).trans HCC.out.1
        clear hb
        rcases (klt_iff.1 HKK.out : k1 < k2 ∨ _) with hk | hk
        · have d1 : decide (k2 < k1) = false := decide_eq_false (by omega)
          have d2 : (k1 == k2) = false := beq_eq_false_iff_ne.2 (by omega)
          clear hk
          go_upto_region 15 with (fail)
          go_quiet (fail)
          go_wp2
          have HO7 : Hid (Below w4.heap.size w4 (w6.drewN nq)) := below_next HO6.out.2 (below_drewN' (Below.refl _ _) _)
          go_roundg (go - 1)
          case rel => exact ⟨j + 2, by have := HLI.out; omega, by omega, by go_num, HO7.out⟩
          case measure => have := HLI.out; omega
        · obtain ⟨he, hi2⟩ : k1 = k2 ∧ i1 < i2 := hk
          subst he
          have d1 : decide (i2 ≤ i1) = false := decide_eq_false (by omega)
          clear hi2
          go_upto_region 15 with (fail)
          go_quiet (fail)
          go_wp2
          have HO7 : Hid (Below w4.heap.size w4 (w6.drewN nq)) := below_next HO6.out.2 (below_drewN' (Below.refl _ _) _)
          go_roundg (go - 1)
          case rel => exact ⟨j + 2, by have := HLI.out; omega, by omega, by go_num, HO7.out⟩
          case measure => have := HLI.out; omega
      · have hd : decide ((i : Int) < (l : Int)) = false := decide_eq_false (by omega)
        have hd2 : decide (i < l) = false := decide_eq_false hlt
        clear hi hi1 hlt
        go_wp2
        go_loopg [14] n (fun gk ix wr => ∃ i : Nat, i + gk = n ∧ ix = .int .i64 i ∧ Below w4.heap.size w4 wr)
        case atStart => exact ⟨0, by omega, rfl, HBO.out⟩
        case round =>
          obtain ⟨i, hi, rfl, hb⟩ := hrel
          obtain ⟨wp, rfl⟩ : ∃ x : World, x = wr := ⟨_, rfl⟩
          obtain ⟨gp, rfl⟩ : ∃ x : Nat, x = gk := ⟨_, rfl⟩
          have HP : Hid (Below w1.heap.size w1 wp) := below_next HC4.out.1 hb
          have HBP := Lib.hid hb
          clear hb
          by_cases hlt : i < n
          · obtain ⟨gm, rfl⟩ : ∃ gm, gp = gm + 1 := ⟨gp - 1, by omega⟩
            obtain ⟨bA, off, rfl, hbA⟩ := HA.out.addr (by omega)
            obtain ⟨c0, -⟩ := HA.out.cells bA off rfl i hlt
            have HBW : Hid (Below w.heap.size w wp) := HB1.out.trans (HP.out.mono HB1.out.size)
            have c0 := (HBW.out.cell (p := ⟨bA, off + i * 6, none⟩) hbA).trans c0
            have HCW := Lib.hid c0
            obtain ⟨x1, hx1⟩ : ∃ x, I i = x := ⟨_, rfl⟩
            rw [hx1] at c0 HCW
            have G1 := Lib.hid (ag_get U S L x1 wp (HU.out.next HP.out))
            have p0 : (0 : Int) ≤ (i : Int) := by omega
            have p1 : (i : Int) < (n : Int) := by omega
            have HII := Lib.hid hi
            have e6 : wrap64 ((i : Int) + 1) = ((i + 1 : Nat) : Int) := wrap_of' (by omega) (by have := HN.out; omega)
            clear hi hlt hx1
            go_wp2_with fail
            with_reducible refine (G1.out).mono ?_
            rintro e w5 ⟨rfl, hb⟩
            have HO5 := Lib.hid (And.intro (below_next HP.out hb) (below_next HBP.out hb))
            have HI5 := Lib.hid (HC4.out.2.next (below_next HBP.out hb))
            have HCW5 := Lib.hid ((hb.cell (p := ⟨bA, off + i * 6, none⟩) (World.block_lt_of_cell? _ _ HCW.out)).trans HCW.out)
            clear hb G1 c0
            go_wp2
            have E6 := Lib.hid e6
            clear e6
            go_loopg [18, 19] l (fun gk av ix wr => ∃ j : Nat, j + gk = l ∧ av = .bool (hasId x1 L j) ∧ ix = .int .i64 j ∧ Below w5.heap.size w5 wr)
            case atStart => exact ⟨0, by omega, rfl, rfl, Below.refl _ _⟩
            case round =>
              obtain ⟨j, hj, rfl, rfl, hb⟩ := hrel
              obtain ⟨wq, rfl⟩ : ∃ x : World, x = wr := ⟨_, rfl⟩
              have HBQ := Lib.hid hb
              clear hb
              by_cases hlt : j < l
              · obtain ⟨gq, rfl⟩ : ∃ gq, gk = gq + 1 := ⟨gk - 1, by omega⟩
                obtain ⟨p, q1⟩ : ∃ p, L[j]? = some p := ⟨L[j]'(by rw [HLL.out]; omega), List.getElem?_eq_getElem _⟩
                have HIQ := HI5.out.next HBQ.out
                obtain ⟨g, o, rfl, -⟩ := HIQ.addr (by omega)
                have ci := HIQ.cells g o rfl j hlt
                rw [idAt_of q1] at ci
                have cw := (HBQ.out.cell (p := ⟨bA, off + i * 6, none⟩) (World.block_lt_of_cell? _ _ HCW5.out)).trans HCW5.out
                have r0 : (0 : Int) ≤ (j : Int) := by omega
                have r1 : (j : Int) < (l : Int) := by omega
                have HJJ := Lib.hid hj
                have e7 : wrap64 ((j : Int) + 1) = ((j + 1 : Nat) : Int) := wrap_of' (by omega) (by have := HL.out; omega)
                have hst := hasId_next (id := x1) q1
                obtain ⟨b0, hb0⟩ : ∃ b, hasId x1 L j = b := ⟨_, rfl⟩
                rw [hb0] at hst ⊢
                have HST := Lib.hid hst
                obtain ⟨pi, hpi⟩ : ∃ x, p.1.2 = x := ⟨_, rfl⟩
                rw [hpi] at ci HST
                clear hst hb0 q1 hj HIQ hpi hlt
                cases b0 with
                | true =>
                  go_upto_region 25 with (fail)
                  go_quiet (fail)
                  go_wp2
                  have HO7 : Hid (Below w5.heap.size w5 (wq.drewN nq)) := below_next HBQ.out (below_drewN' (Below.refl _ _) _)
                  go_roundg gq
                  case rel => exact ⟨j + 1, by have := HJJ.out; omega, by rw [HST.out]; simp, by go_num, HO7.out⟩
                  case measure => omega
                | false =>
                  obtain ⟨bx, hbx⟩ : ∃ b, (pi == x1) = b := ⟨_, rfl⟩
                  have HBX := Lib.hid hbx
                  go_upto_region 25 with (fail)
                  go_quiet (fail)
                  go_wp2
                  have HO7 : Hid (Below w5.heap.size w5 (wq.drewN nq)) := below_next HBQ.out (below_drewN' (Below.refl _ _) _)
                  go_roundg gq
                  case rel => exact ⟨j + 1, by have := HJJ.out; omega, by rw [HST.out, ← HBX.out]; simp, by go_num, HO7.out⟩
                  case measure => omega
              · obtain rfl : gk = 0 := by omega
                obtain rfl : j = l := by omega
                have hh : hasId x1 L j = agIs x1 L := by rw [← HLL.out]; exact hasId_all x1 L
                rw [hh]
                have e6 := E6.out
                obtain ⟨bz, hbz⟩ : ∃ b, agIs x1 L = b := ⟨_, rfl⟩
                rw [hbz]
                clear hj hh hbz hlt
                go_wp2
                go_roundg gm
                case rel => exact ⟨i + 1, by have := HII.out; omega, by go_num, below_next HO5.out.2 HBQ.out⟩
                case measure => omega
          · obtain rfl : gp = 0 := by omega
            obtain rfl : i = n := by omega
            have HEND : Hid (Below w.heap.size w wp) := HB1.out.trans (HP.out.mono HB1.out.size)
            go_wp2
            go_ret
            exact ⟨by simp, HEND.out⟩

end Go.Proofs.Ytjlnbpomncglcaa

