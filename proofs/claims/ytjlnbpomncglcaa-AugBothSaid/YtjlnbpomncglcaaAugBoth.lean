/-
  AugBoth holds.
-/
import Derived.Test.YtjlnbpomncglcaaProg
import Derived.Test.YtjlnbpomncglcaaAugH
namespace Go.Proofs.Ytjlnbpomncglcaa
set_option linter.unusedVariables false
set_option linter.unusedSimpArgs false
set_option maxRecDepth 100000
open Go.RowKit Go.Shelf

set_option maxHeartbeats 16000000 in
theorem augBoth_walk (w : World) (A : Option Addr) (n c : Nat) (I : Nat → Int) (fI : ∀ i, i < n → (Lit.int .i64 (I i)).wf = true) (K : Nat → Int) (fK : ∀ i, i < n → (Lit.int .u64 (K i)).wf = true) (V : Nat → Int) (fV : ∀ i, i < n → (Lit.int .u64 (V i)).wf = true) (D : Nat → Bool) (P : Nat → Int) (fP : ∀ i, i < n → (Lit.int .u64 (P i)).wf = true) (Q : Nat → Int) (fQ : ∀ i, i < n → (Lit.int .u64 (Q i)).wf = true) (hl : n ≤ c) (hm : c ≤ maxLen)
    (hA : 0 < n → ∃ b off, A = some ⟨b, off, none⟩ ∧ b < w.heap.size) (hI : ∀ b off, A = some ⟨b, off, none⟩ → ∀ i, i < n → w.cell? ⟨b, off + (i * 6 + 0), none⟩ = some (.int .i64 (I i))) (hK : ∀ b off, A = some ⟨b, off, none⟩ → ∀ i, i < n → w.cell? ⟨b, off + (i * 6 + 1), none⟩ = some (.int .u64 (K i))) (hV : ∀ b off, A = some ⟨b, off, none⟩ → ∀ i, i < n → w.cell? ⟨b, off + (i * 6 + 2), none⟩ = some (.int .u64 (V i))) (hD : ∀ b off, A = some ⟨b, off, none⟩ → ∀ i, i < n → w.cell? ⟨b, off + (i * 6 + 3), none⟩ = some (.bool (D i))) (hP : ∀ b off, A = some ⟨b, off, none⟩ → ∀ i, i < n → w.cell? ⟨b, off + (i * 6 + 4), none⟩ = some (.int .u64 (P i))) (hQ : ∀ b off, A = some ⟨b, off, none⟩ → ∀ i, i < n → w.cell? ⟨b, off + (i * 6 + 5), none⟩ = some (.int .u64 (Q i))) :
    Calls Try.prog 11 #[.slice A n c] w fun e w' => e = .returned (.bool true) ∧ Below w.heap.size w w' := by
  have HA := Lib.hid (aacts_of hA hI hK hV hD hP hQ)
  have HMX : Hid (∀ i, i < n → K i ≤ 18446744073709551615) := fun i hi => by have := fK i hi; have e : IntKind.u64.max = 18446744073709551615 := rfl; simp [Lit.wf] at this; omega
  have HVX : Hid (∀ i, i < n → 0 ≤ V i ∧ V i ≤ 18446744073709551615) := fun i hi => by have := fV i hi; have e : IntKind.u64.max = 18446744073709551615 := rfl; have e2 : IntKind.u64.min = 0 := rfl; simp [Lit.wf] at this; omega
  clear hA hI hK hV hD hP hQ fI fK fV fP fQ hl hm
  by_cases hn : 200 < n
  · go_enter Try.func11, Try.ntmps11
    go_wp2_with fail
    with_reducible refine (aug_awake w).mono ?_
    rintro e w0 ⟨rfl, hb0⟩
    have HB0 := Lib.hid hb0
    clear hb0
    go_wp2_with fail
    with_reducible refine (acted_many A n c w0 hn).mono ?_
    rintro e w1 ⟨rfl, hb1⟩
    have HB1 := Lib.hid (below_next HB0.out hb1)
    clear hb1
    go_wp2
    go_ret
    exact ⟨by simp, HB1.out⟩
  have HN := Lib.hid (show n ≤ 200 by omega)
  clear hn
  go_enter Try.func11, Try.ntmps11
  go_wp2_with fail
  with_reducible refine (aug_awake w).mono ?_
  rintro e w0 ⟨rfl, hb0⟩
  have HB0 := Lib.hid hb0
  clear hb0
  go_wp2_with fail
  with_reducible refine (acted_any A n c I K V D P Q w0 (HA.out.next HB0.out) HN.out).mono ?_
  rintro e w1 ⟨U, rfl, hu⟩
  have HL : Hid ((actsA I K V D n).length ≤ 200) := Nat.le_trans (actsA_len I K V D n) HN.out
  have HKM : Hid (∀ p ∈ actsA I K V D n, p.1.1 ≤ 18446744073709551615) := actsA_keys HMX.out n (Nat.le_refl _)
  have HVM : Hid (∀ p ∈ actsA I K V D n, 0 ≤ p.2 ∧ p.2 ≤ 18446744073709551615) := actsA_all (fun p => 0 ≤ p.2 ∧ p.2 ≤ 18446744073709551615) HVX.out n (Nat.le_refl _)
  obtain ⟨L, hL⟩ : ∃ x, actsA I K V D n = x := ⟨_, rfl⟩
  rw [hL] at hu HL HKM HVM
  clear hL
  obtain ⟨S, hs1, hs2, hs3⟩ := hu
  have HU := Lib.hid hs1
  have HB1 : Hid (Below w.heap.size w w1) := HB0.out.trans (hs3.mono HB0.out.size)
  have HRS : Hid (Rises L ∧ Once L) := ⟨hs1.rises, hs1.once⟩
  clear hs1 hs2 hs3
  obtain ⟨s0, hs0⟩ : ∃ s, (sumFrom ofH minH none L).getD (0, 0) = s := ⟨_, rfl⟩
  obtain ⟨b0, hb0'⟩ : ∃ b, (!L.isEmpty) = b := ⟨_, rfl⟩
  have LQ := Lib.hid (ag_lowest U S L w1 HU.out)
  have LE := Lib.hid (fun w h => ag_least U S L 18446744073709551615 w h)
  have hsome : (sumFrom ofH minH none L).isSome = b0 := by
    rw [← hb0']
    cases hL : L with
    | nil => rfl
    | cons p L' =>
      obtain ⟨s, h1, -⟩ := sumH_some L' (ofH p.1 p.2)
      have h2 : sumFrom ofH minH none (p :: L') = some s := h1
      rw [h2]
      rfl
  rw [uptoH_most HKM.out, hsome, hs0] at LE
  rw [hs0, hb0'] at LQ
  have HE : Hid ((b0 = false → L = []) ∧ (b0 = true → (∃ a, ((a, s0.2), s0.1) ∈ L) ∧ ∀ q ∈ L, s0.1 ≤ q.2)) := by
    refine ⟨fun e => ?_, fun e => ?_⟩
    · rw [e] at hb0'
      simpa using hb0'
    · rw [e] at hsome
      obtain ⟨s, h1⟩ := Option.isSome_iff_exists.1 hsome
      rw [h1] at hs0
      obtain rfl : s = s0 := hs0
      obtain ⟨⟨p, hp, e1⟩, h2⟩ := sumH_is h1
      have e2 : p.2 = s.1 := by rw [← e1]; rfl
      have e3 : p.1.2 = s.2 := by rw [← e1]; rfl
      refine ⟨⟨p.1.1, by rw [← e2, ← e3]; exact hp⟩, fun q hq => ?_⟩
      have := h2 q hq
      rw [Bool.eq_false_iff, Ne, ltH_iff] at this
      have e4 : (ofH q.1 q.2).1 = q.2 := rfl
      rw [e4] at this
      omega
  clear hs0 hb0' hsome
  obtain ⟨lw, hlw⟩ : ∃ z, s0.1 = z := ⟨_, rfl⟩
  obtain ⟨li, hli⟩ : ∃ z, s0.2 = z := ⟨_, rfl⟩
  rw [hlw] at LQ HE
  rw [hli] at LE HE
  clear hlw hli
  go_wp2_with fail
  with_reducible refine (LQ.out).mono ?_
  rintro e w2 ⟨rfl, hb⟩
  have HCw2 : Hid (Below w1.heap.size w1 w2) := hb
  clear hb LQ
  go_wp2_with fail
  with_reducible refine (LE.out w2 (HU.out.next HCw2.out)).mono ?_
  rintro e w3 ⟨rfl, hb⟩
  have HCw3 := Lib.hid (below_next HCw2.out hb)
  clear hb LE
  cases b0 with
  | false =>
    have hL0 := HE.out.1 rfl
    have LN := Lib.hid (ag_len U S L w3 (HU.out.next HCw3.out))
    rw [show ((L.length : Nat) : Int) = 0 from by rw [hL0]; rfl] at LN
    clear hL0
    go_wp2_with fail
    with_reducible refine (LN.out).mono ?_
    rintro e w4 ⟨rfl, hb⟩
    have HCw4 : Hid (Below w.heap.size w w4) := HB1.out.trans ((below_next HCw3.out hb).mono HB1.out.size)
    clear hb
    go_wp2
    go_ret
    exact ⟨by simp, HCw4.out⟩
  | true =>
    obtain ⟨⟨a0, hm0⟩, hall⟩ := HE.out.2 rfl
    have HALL := Lib.hid hall
    obtain ⟨e1, e2, e3⟩ := ag_of_mem HRS.out.2 hm0
    have GQ := Lib.hid (ag_get U S L li w3 (HU.out.next HCw3.out))
    rw [e1, e2, e3] at GQ
    have HLW : Hid (0 ≤ lw ∧ lw ≤ 18446744073709551615) := HVM.out _ hm0
    obtain ⟨k0, hk0⟩ : ∃ k, findTo lw L = some k := by
      cases hu : findTo lw L with
      | none => have := findTo_no hu _ hm0; exact absurd this (Int.lt_irrefl _)
      | some k => exact ⟨k, rfl⟩
    have WQ := Lib.hid (fun w h => ag_within U S L lw w h)
    rw [hk0] at WQ
    obtain ⟨f, x, q0, hx, hmin⟩ := findTo_is hk0
    have HF : Hid (L[f]? = some (k0, lw) ∧ ∀ (j : Nat) (q : RK × Int), j < f → L[j]? = some q → lw < q.2) := ⟨by
      have := hall _ (List.mem_of_getElem? q0)
      have e : (k0, x).2 = x := rfl
      rw [e] at this
      rw [q0, show x = lw by omega], hmin⟩
    obtain ⟨z2, hz2⟩ : ∃ z, ((some k0 : Option RK).getD (0, 0)).2 = z := ⟨_, rfl⟩
    rw [hz2] at WQ
    have HZ2 : Hid (k0.2 = z2) := hz2
    have WB : Hid (∀ w, Aug w S U L → 0 < lw → Calls Try.prog 46 #[.pointer (some ⟨U, 0, none⟩), .int .u64 (lw - 1)] w fun e w' => e = .returned (.tuple #[.int .i64 0, .bool false]) ∧ Below w.heap.size w w') := fun w h hp => by
      have := ag_within U S L (lw - 1) w h
      have hn : findTo (lw - 1) L = none := by
        cases hu : findTo (lw - 1) L with
        | none => rfl
        | some k =>
          obtain ⟨f2, x2, r0, r1, -⟩ := findTo_is hu
          have := HALL.out _ (List.mem_of_getElem? r0)
          have e : (k, x2).2 = x2 := rfl
          rw [e] at this
          omega
      rw [hn] at this
      exact this
    have WB0 := Lib.hid (fun w h => ag_within U S L 18446744073709551615 w h)
    obtain ⟨zz, hzz⟩ : ∃ z, ((findTo 18446744073709551615 L).getD (0, 0)).2 = z := ⟨_, rfl⟩
    obtain ⟨bz, hbz⟩ : ∃ z, (findTo 18446744073709551615 L).isSome = z := ⟨_, rfl⟩
    rw [hzz, hbz] at WB0
    clear hm0 hall e1 e2 e3 hk0 q0 hx hmin hz2 hzz hbz
    go_wp2_with fail
    with_reducible refine (GQ.out).mono ?_
    rintro e w4 ⟨rfl, hb⟩
    have HCw4 := Lib.hid (below_next HCw3.out hb)
    clear hb GQ
    go_wp2_with fail
    with_reducible refine (WQ.out w4 (HU.out.next HCw4.out)).mono ?_
    rintro e w5 ⟨rfl, hb⟩
    have HCw5 := Lib.hid (below_next HCw4.out hb)
    clear hb WQ
    go_wp2_with fail
    with_reducible refine (ag_ids U S L w5 (HU.out.next HCw5.out) (by have := HL.out; omega)).mono ?_
    rintro e w6 ⟨v, rfl, hv, hb⟩
    obtain ⟨Ai, ci, rfl, -, -, hi⟩ := ints_of_own hv
    have HI := Lib.hid hi
    have HCw6 : Hid (Below w1.heap.size w1 w6) := below_next HCw5.out hb
    clear hv hb hi
    obtain ⟨l, hll⟩ : ∃ l, L.length = l := ⟨_, rfl⟩
    rw [hll] at HI HL ⊢
    have HLL := Lib.hid hll
    clear hll
    go_wp2
    go_loopg [14] l (fun gk ix wr => ∃ i : Nat, i + gk = l ∧ i ≤ f ∧ ix = .int .i64 i ∧ Below w6.heap.size w6 wr)
    case atStart => exact ⟨0, by omega, Nat.zero_le _, rfl, Below.refl _ _⟩
    case round =>
      obtain ⟨i, hi, hif, rfl, hb⟩ := hrel
      obtain ⟨wo, rfl⟩ : ∃ x : World, x = wr := ⟨_, rfl⟩
      obtain ⟨go, rfl⟩ : ∃ x : Nat, x = gk := ⟨_, rfl⟩
      have HBO := Lib.hid hb
      have HIO := Lib.hid (HI.out.next hb)
      have HO : Hid (Below w1.heap.size w1 wo) := below_next HCw6.out hb
      clear hb
      have hfl : f < l := by have := (List.getElem?_eq_some_iff.1 HF.out.1).1; rw [HLL.out] at this; exact this
      have hlt : i < l := by omega
      obtain ⟨gm, rfl⟩ : ∃ gm, go = gm + 1 := ⟨go - 1, by omega⟩
      obtain ⟨⟨⟨k1, i1⟩, v1⟩, q1⟩ : ∃ p, L[i]? = some p := ⟨L[i]'(by rw [HLL.out]; omega), List.getElem?_eq_getElem _⟩
      have G1 := Lib.hid (fun w h => ag_get U S L i1 w h)
      rw [agK_at HRS.out.2 q1, agV_at HRS.out.2 q1, agIs_at HRS.out.2 q1] at G1
      have HIX := HIO.out
      obtain ⟨g, o, rfl, -⟩ := HIX.addr (by omega)
      have c0 := HIX.cells g o rfl i hlt
      rw [idAt_of q1] at c0
      have p0 : (0 : Int) ≤ (i : Int) := by omega
      have p1 : (i : Int) < (l : Int) := by omega
      have HLI := Lib.hid (And.intro hlt hi)
      have e6 : wrap64 ((i : Int) + 1) = ((i + 1 : Nat) : Int) := wrap_of' (by omega) (by have := HL.out; omega)
      rcases Nat.lt_or_eq_of_le hif with hlf | hlf
      · have hv : (v1 == lw) = false := beq_eq_false_iff_ne.2 (by have := HF.out.2 i _ hlf q1; have e : ((k1, i1), v1).2 = v1 := rfl; omega)
        have HLF := Lib.hid hlf
        clear hi hif hfl hlt HIX q1 hlf
        go_wp2_with fail
        with_reducible refine (G1.out wo (HU.out.next HO.out)).mono ?_
        rintro e w7 ⟨rfl, hb⟩
        have HO7 := Lib.hid (below_next HBO.out hb)
        clear hb c0
        go_wp2
        go_roundg gm
        case rel => exact ⟨i + 1, by have := HLI.out; omega, HLF.out, by go_num, HO7.out⟩
        case measure => omega
      · subst hlf
        have hq := HF.out.1
        rw [q1] at hq
        cases hq
        obtain rfl : i1 = z2 := HZ2.out
        clear hi hif hfl hlt HIX q1
        go_wp2_with fail
        with_reducible refine (G1.out wo (HU.out.next HO.out)).mono ?_
        rintro e w7 ⟨rfl, hb⟩
        have HO7 := Lib.hid (And.intro (below_next HBO.out hb) (below_next HO.out hb))
        have c0 := (hb.cell (p := ⟨g, o + i, none⟩) (World.block_lt_of_cell? _ _ c0)).trans c0
        have HC0 := Lib.hid c0
        clear hb c0
        by_cases hl0 : lw = 0
        · subst hl0
          have e8 : IntKind.u64.wrap (0 - 1) = 18446744073709551615 := by rw [IntKind.wrap_u64]; rfl
          have e9 : IntKind.u64.wrap (-1) = 18446744073709551615 := by rw [IntKind.wrap_u64]; rfl
          go_wp2_with fail
          with_reducible refine (WB0.out w7 (HU.out.next HO7.out.2)).mono ?_
          rintro e w8 ⟨rfl, hb⟩
          have HO8 : Hid (Below w.heap.size w w8) := HB1.out.trans ((below_next HO7.out.2 hb).mono HB1.out.size)
          have c0 := (hb.cell (p := ⟨g, o + i, none⟩) (World.block_lt_of_cell? _ _ HC0.out)).trans HC0.out
          clear hb
          go_wp2
          go_ret
          exact ⟨by simp, HO8.out⟩
        · have e8 : IntKind.u64.wrap (lw - 1) = lw - 1 := by rw [IntKind.wrap_u64]; have := HLW.out; omega
          have hl1 : (lw == 0) = false := beq_eq_false_iff_ne.2 hl0
          have HWB := Lib.hid (WB.out w7 (HU.out.next HO7.out.2) (by have := HLW.out; omega))
          clear hl0
          go_wp2_with fail
          with_reducible refine (HWB.out).mono ?_
          rintro e w8 ⟨rfl, hb⟩
          have HO8 : Hid (Below w.heap.size w w8) := HB1.out.trans ((below_next HO7.out.2 hb).mono HB1.out.size)
          have c0 := (hb.cell (p := ⟨g, o + i, none⟩) (World.block_lt_of_cell? _ _ HC0.out)).trans HC0.out
          clear hb
          go_wp2
          go_ret
          exact ⟨by simp, HO8.out⟩

end Go.Proofs.Ytjlnbpomncglcaa

