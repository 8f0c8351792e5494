/-
  AugLeast holds.
-/
import Derived.Test.YtjlnbpomncglcaaProg
import Derived.Test.YtjlnbpomncglcaaAugH
namespace Go.Proofs.Ytjlnbpomncglcaa
set_option linter.unusedVariables false
set_option linter.unusedSimpArgs false
set_option maxRecDepth 100000
open Go.RowKit Go.Shelf

set_option maxHeartbeats 16000000 in
theorem augLeast_walk (w : World) (A : Option Addr) (n c : Nat) (I : Nat → Int) (fI : ∀ i, i < n → (Lit.int .i64 (I i)).wf = true) (K : Nat → Int) (fK : ∀ i, i < n → (Lit.int .u64 (K i)).wf = true) (V : Nat → Int) (fV : ∀ i, i < n → (Lit.int .u64 (V i)).wf = true) (D : Nat → Bool) (P : Nat → Int) (fP : ∀ i, i < n → (Lit.int .u64 (P i)).wf = true) (Q : Nat → Int) (fQ : ∀ i, i < n → (Lit.int .u64 (Q i)).wf = true) (hl : n ≤ c) (hm : c ≤ maxLen)
    (hA : 0 < n → ∃ b off, A = some ⟨b, off, none⟩ ∧ b < w.heap.size) (hI : ∀ b off, A = some ⟨b, off, none⟩ → ∀ i, i < n → w.cell? ⟨b, off + (i * 6 + 0), none⟩ = some (.int .i64 (I i))) (hK : ∀ b off, A = some ⟨b, off, none⟩ → ∀ i, i < n → w.cell? ⟨b, off + (i * 6 + 1), none⟩ = some (.int .u64 (K i))) (hV : ∀ b off, A = some ⟨b, off, none⟩ → ∀ i, i < n → w.cell? ⟨b, off + (i * 6 + 2), none⟩ = some (.int .u64 (V i))) (hD : ∀ b off, A = some ⟨b, off, none⟩ → ∀ i, i < n → w.cell? ⟨b, off + (i * 6 + 3), none⟩ = some (.bool (D i))) (hP : ∀ b off, A = some ⟨b, off, none⟩ → ∀ i, i < n → w.cell? ⟨b, off + (i * 6 + 4), none⟩ = some (.int .u64 (P i))) (hQ : ∀ b off, A = some ⟨b, off, none⟩ → ∀ i, i < n → w.cell? ⟨b, off + (i * 6 + 5), none⟩ = some (.int .u64 (Q i))) (a1 : Int) (fa1 : (Lit.int .u64 a1).wf = true) (a2 : Int) (fa2 : (Lit.int .u64 a2).wf = true) :
    Calls Try.prog 10 #[.slice A n c, .int .u64 a1, .int .u64 a2] w fun e w' => e = .returned (.bool true) ∧ Below w.heap.size w w' := by
  have HA := Lib.hid (aacts_of hA hI hK hV hD hP hQ)
  have HMX : Hid (∀ i, i < n → K i ≤ 18446744073709551615) := fun i hi => by have := fK i hi; have e : IntKind.u64.max = 18446744073709551615 := rfl; simp [Lit.wf] at this; omega
  clear hA hI hK hV hD hP hQ fI fK fV fP fQ hl hm; clear fa1 fa2
  by_cases hn : 200 < n
  · go_enter Try.func10, Try.ntmps10
    go_wp2_with fail
    with_reducible refine (aug_awake w).mono ?_
    rintro e w0 ⟨rfl, hb0⟩
    have HB0 := Lib.hid hb0
    clear hb0
    go_wp2_with fail
    with_reducible refine (acted_many A n c w0 hn).mono ?_
    rintro e w1 ⟨rfl, hb1⟩
    have HB1 := Lib.hid (below_next HB0.out hb1)
    clear hb1
    go_wp2
    go_ret
    exact ⟨by simp, HB1.out⟩
  have HN := Lib.hid (show n ≤ 200 by omega)
  clear hn
  go_enter Try.func10, Try.ntmps10
  go_wp2_with fail
  with_reducible refine (aug_awake w).mono ?_
  rintro e w0 ⟨rfl, hb0⟩
  have HB0 := Lib.hid hb0
  clear hb0
  go_wp2_with fail
  with_reducible refine (acted_any A n c I K V D P Q w0 (HA.out.next HB0.out) HN.out).mono ?_
  rintro e w1 ⟨U, rfl, hu⟩
  have HL : Hid ((actsA I K V D n).length ≤ 200) := Nat.le_trans (actsA_len I K V D n) HN.out
  have HKM : Hid (∀ p ∈ actsA I K V D n, p.1.1 ≤ 18446744073709551615) := actsA_keys HMX.out n (Nat.le_refl _)
  obtain ⟨L, hL⟩ : ∃ x, actsA I K V D n = x := ⟨_, rfl⟩
  rw [hL] at hu HL HKM
  clear hL
  obtain ⟨S, hs1, hs2, hs3⟩ := hu
  have HU := Lib.hid hs1
  have HB1 : Hid (Below w.heap.size w w1) := HB0.out.trans (hs3.mono HB0.out.size)
  have HRS : Hid (Rises L ∧ Once L) := ⟨hs1.rises, hs1.once⟩
  clear hs1 hs2 hs3
  obtain ⟨s0, hs0⟩ : ∃ s, (uptoH a1 L).getD (0, 0) = s := ⟨_, rfl⟩
  obtain ⟨b0, hb0'⟩ : ∃ b, (uptoH a1 L).isSome = b := ⟨_, rfl⟩
  have LQ := Lib.hid (ag_least U S L a1 w1 HU.out)
  rw [hs0, hb0'] at LQ
  have HLE : Hid ((b0 = false → ∀ p ∈ L, a1 < p.1.1) ∧ (b0 = true → (∃ a, ((a, s0.2), s0.1) ∈ L ∧ a ≤ a1) ∧ ∀ q ∈ L, q.1.1 ≤ a1 → s0.1 < q.2 ∨ (q.2 = s0.1 ∧ s0.2 ≤ q.1.2))) := by
    cases hu : uptoH a1 L with
    | none =>
      rw [hu] at hb0'
      exact ⟨fun _ => least_no hu, fun e => by rw [← hb0'] at e; cases e⟩
    | some s =>
      rw [hu] at hs0 hb0'
      obtain rfl : s = s0 := hs0
      exact ⟨(fun e => by rw [← hb0'] at e; cases e), fun _ => least_is hu⟩
  clear hs0 hb0'
  go_wp2_with fail
  with_reducible refine (LQ.out).mono ?_
  rintro e w2 ⟨rfl, hb⟩
  have HCw2 : Hid (Below w1.heap.size w1 w2) := hb
  clear hb LQ
  obtain ⟨z0, hz0⟩ : ∃ z, (findTo a2 L).getD (0, 0) = z := ⟨_, rfl⟩
  obtain ⟨b1, hb1'⟩ : ∃ b, (findTo a2 L).isSome = b := ⟨_, rfl⟩
  have WQ := Lib.hid (ag_within U S L a2 w2 (HU.out.next HCw2.out))
  rw [hz0, hb1'] at WQ
  have HWI : Hid (∃ f : Nat, (b1 = false → ∀ p ∈ L, a2 < p.2) ∧ (b1 = true → ∃ x, L[f]? = some (z0, x) ∧ x ≤ a2 ∧ ∀ (j : Nat) (q : RK × Int), j < f → L[j]? = some q → a2 < q.2)) := by
    cases hu : findTo a2 L with
    | none =>
      rw [hu] at hb1'
      exact ⟨0, fun _ => findTo_no hu, fun e => by rw [← hb1'] at e; cases e⟩
    | some k =>
      rw [hu] at hz0 hb1'
      obtain rfl : k = z0 := hz0
      obtain ⟨f, x, h1, h2, h3⟩ := findTo_is hu
      exact ⟨f, (fun e => by rw [← hb1'] at e; cases e), fun _ => ⟨x, h1, h2, h3⟩⟩
  clear hz0 hb1'
  obtain ⟨f, hf⟩ := HWI.out
  have HF := Lib.hid hf
  clear hf HWI
  go_wp2_with fail
  with_reducible refine (WQ.out).mono ?_
  rintro e w3 ⟨rfl, hb⟩
  have HCw3 := Lib.hid (below_next HCw2.out hb)
  clear hb WQ
  obtain ⟨z2, hz2⟩ : ∃ z, z0.2 = z := ⟨_, rfl⟩
  obtain ⟨s1, hs1'⟩ : ∃ z, s0.1 = z := ⟨_, rfl⟩
  obtain ⟨s2, hs2'⟩ : ∃ z, s0.2 = z := ⟨_, rfl⟩
  rw [hz2, hs2']
  rw [hs1', hs2'] at HLE
  have HZ2 := Lib.hid hz2
  clear hz2 hs1' hs2'
  obtain ⟨gk0, hgk0⟩ : ∃ z, agK s2 L = z := ⟨_, rfl⟩
  obtain ⟨gv0, hgv0⟩ : ∃ z, agV s2 L = z := ⟨_, rfl⟩
  obtain ⟨gi0, hgi0⟩ : ∃ z, agIs s2 L = z := ⟨_, rfl⟩
  have GQ := Lib.hid (ag_get U S L s2 w3 (HU.out.next HCw3.out))
  rw [hgk0, hgv0, hgi0] at GQ
  have HGG : Hid (b0 = true → gk0 ≤ a1 ∧ gv0 = s1 ∧ gi0 = true) := by
    intro e
    obtain ⟨⟨a, ha, hk⟩, -⟩ := HLE.out.2 e
    obtain ⟨e1, e2, e3⟩ := ag_of_mem HRS.out.2 ha
    exact ⟨by rw [← hgk0, e1]; exact hk, by rw [← hgv0, e2], by rw [← hgi0, e3]⟩
  clear hgk0 hgv0 hgi0
  go_wp2_with fail
  with_reducible refine (GQ.out).mono ?_
  rintro e w4 ⟨rfl, hb⟩
  have HCw4 := Lib.hid (below_next HCw3.out hb)
  clear hb GQ
  go_upto_region 9 with (fail)
  go_cut [55] (fun tv wc => tv = .bool false ∧ Below w4.heap.size w4 wc)
  case first =>
    cases b0 with
    | false =>
      go_wp2_with fail
      go_meet
      exact ⟨by simp, Below.refl _ _⟩
    | true =>
      obtain ⟨e1, -, e3⟩ := HGG.out rfl
      subst e3
      have d1 : decide (a1 < gk0) = false := decide_eq_false (by omega)
      clear e1
      go_wp2_with fail
      go_meet
      exact ⟨by simp, Below.refl _ _⟩
  case rest =>
    obtain ⟨rfl, hbc⟩ := hcut
    obtain ⟨w5, rfl⟩ : ∃ x : World, x = wc := ⟨_, rfl⟩
    have HCw5 := Lib.hid (below_next HCw4.out hbc)
    clear hbc
    go_wp2_with fail
    with_reducible refine (ag_ids U S L w5 (HU.out.next HCw5.out) (by have := HL.out; omega)).mono ?_
    rintro e w6 ⟨v, rfl, hv, hb⟩
    obtain ⟨Ai, ci, rfl, -, -, hi⟩ := ints_of_own hv
    have HI := Lib.hid hi
    have HCw6 : Hid (Below w1.heap.size w1 w6) := below_next HCw5.out hb
    clear hv hb hi
    obtain ⟨l, hll⟩ : ∃ l, L.length = l := ⟨_, rfl⟩
    rw [hll] at HI HL ⊢
    have HLL := Lib.hid hll
    clear hll
  
    go_wp2
    go_loopg [15, 17] l (fun gk mv ix wr => ∃ i : Nat, i + gk = l ∧ mv = .bool (b1 && decide (f < i)) ∧ ix = .int .i64 i ∧ Below w6.heap.size w6 wr)
    case atStart => exact ⟨0, by omega, by simp, rfl, Below.refl _ _⟩
    case round =>
      obtain ⟨i, hi, rfl, rfl, hb⟩ := hrel
      obtain ⟨wo, rfl⟩ : ∃ x : World, x = wr := ⟨_, rfl⟩
      obtain ⟨go, rfl⟩ : ∃ x : Nat, x = gk := ⟨_, rfl⟩
      have HBO := Lib.hid hb
      have HIO := Lib.hid (HI.out.next hb)
      have HO : Hid (Below w1.heap.size w1 wo) := below_next HCw6.out hb
      clear hb
      by_cases hlt : i < l
      · obtain ⟨gm, rfl⟩ : ∃ gm, go = gm + 1 := ⟨go - 1, by omega⟩
        obtain ⟨⟨⟨k1, i1⟩, v1⟩, q1⟩ : ∃ p, L[i]? = some p := ⟨L[i]'(by rw [HLL.out]; omega), List.getElem?_eq_getElem _⟩
        have G1 := Lib.hid (fun w h => ag_get U S L i1 w h)
        rw [agK_at HRS.out.2 q1, agV_at HRS.out.2 q1, agIs_at HRS.out.2 q1] at G1
        have HIX := HIO.out
        obtain ⟨g, o, rfl, -⟩ := HIX.addr (by omega)
        have c0 := HIX.cells g o rfl i hlt
        rw [idAt_of q1] at c0
        have p0 : (0 : Int) ≤ (i : Int) := by omega
        have p1 : (i : Int) < (l : Int) := by omega
  
        have hp := List.mem_of_getElem? q1
        have HA1 : Hid (k1 ≤ a1 → b0 = true ∧ ¬ v1 < gv0 ∧ (v1 = gv0 → ¬ i1 < s2)) := by
          intro hk
          have hb : b0 = true := by
            cases hb : b0 with
            | false => have := HLE.out.1 hb _ hp; have e : ((k1, i1), v1).1.1 = k1 := rfl; omega
            | true => rfl
          have h1 := (HLE.out.2 hb).2 _ hp hk
          have h2 := (HGG.out hb).2.1
          have e1 : ((k1, i1), v1).2 = v1 := rfl
          have e2 : ((k1, i1), v1).1.2 = i1 := rfl
          rw [e1, e2] at h1
          exact ⟨hb, by omega, fun _ => by omega⟩
        have HB1' : Hid (b1 = true → (i < f → a2 < v1 ∧ i1 ≠ z2) ∧ (i = f → v1 ≤ a2 ∧ i1 = z2) ∧ (f < i → i1 ≠ z2)) := by
          intro e
          obtain ⟨x, h1, h2, h3⟩ := HF.out.2 e
          refine ⟨fun h => ⟨h3 i _ h q1, ?_⟩, fun h => ?_, fun h => ?_⟩
          · rw [← HZ2.out]; exact at_ids HRS.out.2 q1 h1 (by omega)
          · subst h
            rw [q1] at h1
            cases h1
            exact ⟨h2, HZ2.out⟩
          · rw [← HZ2.out]; exact at_ids HRS.out.2 q1 h1 (by omega)
        have HB2 : Hid (b1 = false → a2 < v1) := fun e => HF.out.1 e _ hp
        have HLI := Lib.hid (And.intro hlt hi)
        have e6 : wrap64 ((i : Int) + 1) = ((i + 1 : Nat) : Int) := wrap_of' (by omega) (by have := HL.out; omega)
        obtain ⟨m0, hm0⟩ : ∃ b, (b1 && decide (f < i)) = b := ⟨_, rfl⟩
        rw [hm0]
        have HM0 := Lib.hid hm0
        clear hp q1 HIX hm0
        go_wp2_with fail
        with_reducible refine (G1.out wo (HU.out.next HO.out)).mono ?_
        rintro e w7 ⟨rfl, hb⟩
        have HO7 := Lib.hid (below_next HBO.out hb)
        have c0 := (hb.cell (p := ⟨g, o + i, none⟩) (World.block_lt_of_cell? _ _ c0)).trans c0
        have HC0 := Lib.hid c0
        clear hb hi hlt
        go_upto_region 17 with (fail)
        go_cut [102] (fun tv wc => tv = .bool false ∧ Below w7.heap.size w7 wc)
        case first =>
          by_cases hk : k1 ≤ a1
          · obtain ⟨rfl, h1, h2⟩ := HA1.out hk
            have d1 : decide (k1 ≤ a1) = true := decide_eq_true hk
            have d2 : decide (v1 < gv0) = false := decide_eq_false (by omega)
            by_cases hv : v1 = gv0
            · have d3 : decide (i1 < s2) = false := decide_eq_false (by have := h2 hv; omega)
              subst hv
              clear h1 h2 hk
              go_wp2_with fail
              go_meet
              exact ⟨by simp, Below.refl _ _⟩
            · have d3 : (v1 == gv0) = false := beq_eq_false_iff_ne.2 hv
              clear h1 h2 hk hv
              go_wp2_with fail
              go_meet
              exact ⟨by simp, Below.refl _ _⟩
          · have d1 : decide (k1 ≤ a1) = false := decide_eq_false hk
            clear hk
            go_wp2_with fail
            go_meet
            exact ⟨by simp, Below.refl _ _⟩
        case rest =>
          obtain ⟨rfl, hbc⟩ := hcut
          obtain ⟨w8, rfl⟩ : ∃ x : World, x = wc := ⟨_, rfl⟩
          have HO8 := Lib.hid (below_next HO7.out hbc)
          have c0 := (hbc.cell (p := ⟨g, o + i, none⟩) (World.block_lt_of_cell? _ _ HC0.out)).trans HC0.out
          clear hbc HC0
          cases b1 with
          | false =>
            obtain rfl : m0 = false := by rw [← HM0.out]; rfl
            have d1 : decide (v1 ≤ a2) = false := decide_eq_false (by have := HB2.out rfl; omega)
            go_wp2
            go_roundg gm
            case rel => exact ⟨i + 1, by have := HLI.out; omega, by simp, by go_num, HO8.out⟩
            case measure => omega
          | true =>
            rcases Nat.lt_trichotomy i f with hif | hif | hif
            · obtain rfl : m0 = false := by rw [← HM0.out]; simp; omega
              obtain ⟨h1, h2⟩ := (HB1'.out rfl).1 hif
              have d1 : decide (v1 ≤ a2) = false := decide_eq_false (by omega)
              have d2 : (i1 == z2) = false := beq_eq_false_iff_ne.2 h2
              have HIF := Lib.hid hif
              clear h1 h2 hif
              go_wp2
              go_roundg gm
              case rel => exact ⟨i + 1, by have := HLI.out; omega, by have := HIF.out; simp; omega, by go_num, HO8.out⟩
              case measure => omega
            · obtain rfl : m0 = false := by rw [← HM0.out]; simp; omega
              obtain ⟨h1, h2⟩ := (HB1'.out rfl).2.1 hif
              have d1 : decide (v1 ≤ a2) = true := decide_eq_true h1
              have HIF := Lib.hid hif
              subst h2
              clear h1 hif
              go_wp2
              go_roundg gm
              case rel => exact ⟨i + 1, by have := HLI.out; omega, by have := HIF.out; simp; omega, by go_num, HO8.out⟩
              case measure => omega
            · obtain rfl : m0 = true := by rw [← HM0.out]; simp; omega
              have h2 := (HB1'.out rfl).2.2 hif
              have d2 : (i1 == z2) = false := beq_eq_false_iff_ne.2 h2
              have HIF := Lib.hid hif
              clear h2 hif
              go_wp2
              go_roundg gm
              case rel => exact ⟨i + 1, by have := HLI.out; omega, by have := HIF.out; simp; omega, by go_num, HO8.out⟩
              case measure => omega
      · obtain rfl : go = 0 := by omega
        obtain rfl : i = l := by omega
        have HEND : Hid (Below w.heap.size w wo) := HB1.out.trans (HO.out.mono HB1.out.size)
        have hm : (b1 && decide (f < i)) = b1 := by
          cases b1 with
          | false => rfl
          | true =>
            obtain ⟨x, h1, -⟩ := HF.out.2 rfl
            have := (List.getElem?_eq_some_iff.1 h1).1
            rw [HLL.out] at this
            simp [this]
        rw [hm]
        clear hm hi hlt
        go_wp2
        go_ret
        exact ⟨by simp, HEND.out⟩

end Go.Proofs.Ytjlnbpomncglcaa

