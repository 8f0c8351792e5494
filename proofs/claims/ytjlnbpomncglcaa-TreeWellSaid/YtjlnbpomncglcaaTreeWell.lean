/-
  TreeWell holds.
-/
import Derived.Test.YtjlnbpomncglcaaProg
import Derived.Test.YtjlnbpomncglcaaRBCols
namespace Go.Proofs.Ytjlnbpomncglcaa
set_option linter.unusedVariables false
set_option linter.unusedSimpArgs false
set_option maxRecDepth 100000
open Go.RowKit Go.Shelf

set_option maxHeartbeats 4000000 in
theorem treeWell_walk (w : World) (A : Option Addr) (n c : Nat) (N : Nat → Int) (fN : ∀ i, i < n → (Lit.int .u64 (N i)).wf = true) (I : Nat → Int) (fI : ∀ i, i < n → (Lit.int .i64 (I i)).wf = true) (V : Nat → Int) (fV : ∀ i, i < n → (Lit.int .u64 (V i)).wf = true) (D : Nat → Bool) (hl : n ≤ c) (hm : c ≤ maxLen)
    (hA : 0 < n → ∃ b off, A = some ⟨b, off, none⟩ ∧ b < w.heap.size) (hN : ∀ b off, A = some ⟨b, off, none⟩ → ∀ i, i < n → w.cell? ⟨b, off + (i * 4 + 0), none⟩ = some (.int .u64 (N i))) (hI : ∀ b off, A = some ⟨b, off, none⟩ → ∀ i, i < n → w.cell? ⟨b, off + (i * 4 + 1), none⟩ = some (.int .i64 (I i)))
    (hV : ∀ b off, A = some ⟨b, off, none⟩ → ∀ i, i < n → w.cell? ⟨b, off + (i * 4 + 2), none⟩ = some (.int .u64 (V i))) (hD : ∀ b off, A = some ⟨b, off, none⟩ → ∀ i, i < n → w.cell? ⟨b, off + (i * 4 + 3), none⟩ = some (.bool (D i))) :
    Calls Try.prog 5 #[.slice A n c] w fun e w' => e = .returned (.bool true) ∧ Below w.heap.size w w' := by
  have HA := Lib.hid (racts_of hA hN hI hV hD)
  clear hA hN hI hV hD fN fI fV hl hm
  by_cases hn : 200 < n
  · have HN := Lib.hid hn
    clear hn
    go_enter Try.func5, Try.ntmps5
    go_wp2_with fail
    with_reducible refine (awake_true w).mono ?_
    rintro e w1 ⟨rfl, hb1⟩
    have HB1 := Lib.hid hb1
    clear hb1
    go_wp2_with fail
    with_reducible refine (acted_many A n c w1 HN.out).mono ?_
    rintro e w2 ⟨rfl, hb2⟩
    have HB2 := Lib.hid (below_next HB1.out hb2)
    clear hb2
    go_wp2
    go_ret
    exact ⟨rfl, HB2.out⟩
  have HN := Lib.hid (show n ≤ 200 by omega)
  clear hn
  go_enter Try.func5, Try.ntmps5
  go_wp2_with fail
  with_reducible refine (awake_true w).mono ?_
  rintro e w1 ⟨rfl, hb1⟩
  have HB1 := Lib.hid hb1
  clear hb1
  go_wp2_with fail
  with_reducible refine (acted_any A n c N I V D w1 (HA.out.next HB1.out) HN.out).mono ?_
  rintro e w2 ⟨T, t, rfl, ht, hit⟩
  have HT := Lib.hid ht
  have hlen : t.items.length ≤ 200 := by rw [hit]; exact Nat.le_trans (actsRow_len N I V D n) HN.out
  have hsize : t.size ≤ 200 := by rw [← RB.size_items]; exact hlen
  have hhalf : 2 ^ (t.height / 2) ≤ t.size + 1 := by obtain ⟨k, hw⟩ := ht.is.well; exact hw.half ht.is.black
  have hhs := height_le_size t
  obtain ⟨h, hh⟩ : ∃ h, t.height = h := ⟨_, rfl⟩
  obtain ⟨l, hl⟩ : ∃ l, t.items.length = l := ⟨_, rfl⟩
  have hz : ∃ bz, ((h : Int) == 0) = bz ∧ ((l : Int) == 0) = bz := by
    cases t with
    | nil =>
      have e1 : h = 0 := hh.symm
      have e2 : l = 0 := hl.symm
      subst e1 e2
      exact ⟨true, rfl, rfl⟩
    | node b c lt k v s r =>
      have e1 : 0 < h := by rw [← hh]; simp only [RB.height]; omega
      have e2 : 0 < l := by rw [← hl, RB.size_items]; simp only [RB.size]; omega
      exact ⟨false, beq_eq_false_iff_ne.2 (by omega), beq_eq_false_iff_ne.2 (by omega)⟩
  have HEI := Lib.hid (ru_height T t w2 ht.is (by omega))
  rw [hh] at HEI hhalf hhs
  have LEN := Lib.hid (fun w (h : TrIsU w T t) => ru_len T t w h)
  have WEL := Lib.hid (fun w (h : TrIsU w T t) => ru_Well T t w h (by omega))
  rw [hl] at LEN
  have HP := Lib.hid (show 2 ^ (h / 2) ≤ l + 1 ∧ h ≤ 200 ∧ l ≤ 200 by rw [← hl, RB.size_items]; omega)
  clear ht hit hlen hsize hhalf hhs hh hl
  have HZ := Lib.hid hz
  clear hz
  go_wp2_with fail
  with_reducible refine (HEI.out).mono ?_
  rintro e w3 ⟨rfl, hb3⟩
  have HT3 := Lib.hid (HT.out.next hb3)
  clear hb3 HEI
  go_wp2
  go_loopg [5, 6] (h / 2) (fun gk lv iv wr => ∃ (j : Nat) (ii p : Int), j + gk = h / 2 ∧ iv = .int .i64 ii ∧ lv = .int .i64 p ∧ ii = 2 * (j : Int) ∧ p = ((2 ^ j : Nat) : Int) ∧ wr = w3)
  case atStart => exact ⟨0, 0, 1, by omega, rfl, rfl, rfl, rfl, rfl⟩
  case round =>
    obtain ⟨j, ii, p, hj, rfl, rfl, hii, hp, rfl⟩ := hrel
    have hpow : 2 ^ j ≤ 2 ^ (h / 2) := Nat.pow_le_pow_right (by decide) (by omega)
    have hpb : p ≤ 201 ∧ 0 ≤ p := by
      have h1 := HP.out.1
      have h2 := HP.out.2.2
      rw [hp]
      generalize 2 ^ j = q at hpow ⊢
      generalize 2 ^ (h / 2) = q2 at hpow h1
      omega
    have hib : 0 ≤ ii ∧ ii ≤ 200 := by have := HP.out; omega
    have HE := Lib.hid (And.intro hj (And.intro hii hp))
    have e6 : wrap64 (ii + 1) = ii + 1 := by unfold wrap64; omega
    by_cases hlt : 0 < gk
    · obtain ⟨gm, rfl⟩ : ∃ gm, gk = gm + 1 := ⟨gk - 1, by omega⟩
      have d1 : decide (ii + 1 < (h : Int)) = true := decide_eq_true (by omega)
      have e7 : wrap64 (2 * p) = 2 * p := by unfold wrap64; omega
      have e8 : wrap64 (ii + 2) = ii + 2 := by unfold wrap64; omega
      clear hii hp hj hpow hpb hib
      go_wp2
      go_roundg gm
      case rel => exact ⟨j + 1, ii + 2, 2 * p, by have := HE.out.1; omega, by first | rfl | rw [e8], by first | rfl | rw [e7], by have := HE.out.2.1; omega, by have := HE.out.2.2; rw [Nat.pow_succ]; omega, rfl⟩
      case measure => omega
    · obtain rfl : gk = 0 := by omega
      obtain rfl : j = h / 2 := by omega
      have d1 : decide (ii + 1 < (h : Int)) = false := decide_eq_false (by omega)
      have HPL := Lib.hid (show p ≤ (l : Int) + 1 by have := HP.out.1; omega)
      clear hii hp hj hpow hpb hib hlt
      obtain ⟨wo, rfl⟩ : ∃ x : World, x = wr := ⟨_, rfl⟩
      go_wp2_with fail
      with_reducible refine (WEL.out _ HT3.out.is).mono ?_
      rintro e w4 ⟨rfl, hb4⟩
      have HT4 := Lib.hid (HT3.out.next hb4)
      clear hb4
      have p0 : (0 : Int) ≤ (h : Int) := by omega
      go_wp2_with fail
      with_reducible refine (LEN.out w4 HT4.out.is).mono ?_
      rintro e w5 ⟨rfl, hb5⟩
      have HT5 := Lib.hid (HT4.out.next hb5)
      clear hb5
      have e9 : wrap64 ((l : Int) + 1) = (l : Int) + 1 := by have := HP.out; unfold wrap64; omega
      have d2 : decide (p ≤ (l : Int) + 1) = true := decide_eq_true HPL.out
      obtain ⟨bz, z1, z2⟩ := HZ.out
      go_wp2_with fail
      with_reducible refine (LEN.out w5 HT5.out.is).mono ?_
      rintro e w6 ⟨rfl, hb6⟩
      have HT6 := Lib.hid (HT5.out.next hb6)
      clear hb6
      go_wp2
      go_ret
      exact ⟨by simp, HB1.out.trans (HT6.out.below.mono HB1.out.size)⟩

end Go.Proofs.Ytjlnbpomncglcaa
