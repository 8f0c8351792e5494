/-
  The walk of the law LinkExact: what is sent one behind the other.
-/
import Derived.Test.YtmfikclnidbncaaProg
import Derived.Test.YtmfikclnidbncaaLinkA
import Derived.Test.YtmfikclnidbncaaLinkB
import Derived.Test.YtmfikclnidbncaaLinkAwake
namespace Go.Proofs.Ytmfikclnidbncaa
set_option linter.unusedVariables false
set_option linter.unusedSimpArgs false
open Go.RowKit

/-! ### The plain law -/

/-- The grains of the first k packets. -/
def sumG (F : Nat → Int) : Nat → Int
  | 0 => 0
  | k + 1 => sumG F k + (1 + F k % 1500) * 256

theorem sumG_bounds (F : Nat → Int) (k : Nat) : 0 ≤ sumG F k ∧ sumG F k ≤ 384000 * k := by
  induction k with
  | zero => simp [sumG]
  | succ k ih =>
    simp only [sumG]
    have : 0 ≤ F k % 1500 ∧ F k % 1500 < 1500 := by omega
    omega

theorem upDiv_zero {r : Int} (hr : 0 < r) : upDiv 0 r = 0 := by
  unfold upDiv
  rw [Int.ediv_eq_zero_of_lt] <;> omega
theorem upDiv_add (m g r : Int) (hr : 0 < r) : upDiv (m * r + g) r = m + upDiv g r := by
  unfold upDiv
  rw [show m * r + g + r - 1 = g + r - 1 + m * r by omega, Int.add_mul_ediv_right _ _ (by omega)]
  omega
theorem upDiv_nonneg {g r : Int} (hr : 0 < r) (hg : 0 ≤ g) : 0 ≤ upDiv g r := by
  unfold upDiv; exact Int.ediv_nonneg (by omega) (by omega)
theorem upDiv_le {g r : Int} (hr : 0 < r) (hg : 0 ≤ g) : upDiv g r ≤ g := by
  unfold upDiv
  rcases Int.lt_or_le 0 g with h | h
  · have h1 : g + r - 1 ≤ g * r := by
      have : 0 ≤ (g - 1) * (r - 1) := Int.mul_nonneg (by omega) (by omega)
      have e : (g - 1) * (r - 1) = g * r - g - r + 1 := by rw [Int.sub_mul, Int.mul_sub, Int.mul_sub]; omega
      omega
    have h2 := Int.ediv_le_ediv (by omega : (0 : Int) < r) h1
    rwa [Int.mul_ediv_cancel _ (by omega)] at h2
  · have : g = 0 := by omega
    subst this
    rw [Int.ediv_eq_zero_of_lt] <;> omega
theorem upDiv_pos {g r : Int} (hr : 0 < r) (hg : 0 < g) : 1 ≤ upDiv g r := by
  unfold upDiv
  exact (Int.le_ediv_iff_mul_le hr).2 (by omega)
theorem upDiv_rem {g r : Int} (hr : 0 < r) (hg : 0 ≤ g) : (0 < g % r → g / r + 1 = upDiv g r) ∧ (g % r ≤ 0 → g / r = upDiv g r) := by
  have h1 := Int.mul_ediv_add_emod g r
  have h2 := Int.emod_nonneg g (by omega : r ≠ 0)
  have h3 := Int.emod_lt_of_pos g hr
  obtain ⟨q, hq⟩ : ∃ q, g / r = q := ⟨_, rfl⟩
  obtain ⟨s, hs⟩ : ∃ s, g % r = s := ⟨_, rfl⟩
  rw [hq, hs] at h1
  rw [hs] at h2 h3
  unfold upDiv
  rw [hq, hs]
  refine ⟨fun h => ?_, fun h => ?_⟩
  · rw [show g + r - 1 = (s - 1) + (q + 1) * r by rw [← h1, Int.add_mul, Int.mul_comm]; omega, Int.add_mul_ediv_right _ _ (by omega), Int.ediv_eq_zero_of_lt (by omega) (by omega)]
    omega
  · rw [show g + r - 1 = (r - 1) + q * r by rw [← h1, Int.mul_comm]; omega, Int.add_mul_ediv_right _ _ (by omega), Int.ediv_eq_zero_of_lt (by omega) (by omega)]
    omega

/-- What was taken ahead of packet k; whether it idles. -/
def takG (first r S : Int) (k : Nat) : Int := if k = 0 then 0 else first * r + S

theorem exact_from (F : Nat → Int) (first r : Int) (k : Nat) (hr : 0 < r) :
    sendFrom (takG first r (sumG F k) k) r (first + upDiv (sumG F k) r) (k == 0) = first * r + sumG F k := by
  unfold takG sendFrom
  by_cases hk : k = 0
  · subst hk
    simp [sumG, upDiv_zero hr]
  · rw [if_neg hk, upDiv_add _ _ _ hr]
    have : (k == 0) = false := beq_eq_false_iff_ne.2 hk
    simp [this]

theorem exact_free (F : Nat → Int) (first r : Int) (k : Nat) (hr : 0 < r) (hf : 0 ≤ first) : freeB (takG first r (sumG F k) k) r (first + upDiv (sumG F k) r) = true := by
  unfold takG freeB
  have hs := (sumG_bounds F k).1
  have hn := upDiv_nonneg (r := r) hr hs
  by_cases hk : k = 0
  · subst hk
    simp only [if_true, upDiv_zero hr, decide_eq_true_eq]
    omega
  · rw [if_neg hk, upDiv_add _ _ _ hr]
    simp

theorem exact_wrong (F : Nat → Int) (first r n : Int) (k : Nat) (hr : 0 < r) (hf : 0 ≤ first) (hf2 : first < 1073741824) (hk : k ≤ 300) (h1 : 1 ≤ n) (h2 : n ≤ 1500) : wrongN (takG first r (sumG F k) k) r (first + upDiv (sumG F k) r) n = 0 := by
  obtain ⟨s0, s1⟩ := sumG_bounds F k
  have := upDiv_le hr s0
  unfold wrongN
  rw [if_neg (by omega), if_neg (by omega), exact_free F first r k hr hf]
  rfl

theorem takG_bounds (F : Nat → Int) (first r : Int) (k : Nat) (hr : 0 < r) (hr2 : r ≤ 1048576) (hf : 0 ≤ first) (hf2 : first < 1073741824) (hk : k ≤ 301) : 0 ≤ takG first r (sumG F k) k ∧ takG first r (sumG F k) k ≤ 2251799813685248 ∧ first * r ≤ 1125899906842624 := by
  obtain ⟨s0, s1⟩ := sumG_bounds F k
  have h1 : 0 ≤ first * r := Int.mul_nonneg hf (by omega)
  have h2 : first * r ≤ first * 1048576 := Int.mul_le_mul_of_nonneg_left hr2 hf
  unfold takG
  split <;> omega

set_option maxHeartbeats 400000 in
theorem linkExact_at (r now : Int) (A : Option Addr) (n c : Nat) (F : Nat → Int) (w : World) (hr : Word r) (hn : Word now) (hm : n ≤ maxLen) (hA : 0 < n → ∃ b off, A = some ⟨b, off, none⟩ ∧ b < w.heap.size)
    (hF : ∀ i, i < n → 0 ≤ F i ∧ F i ≤ 65535) (hC : ∀ b off, A = some ⟨b, off, none⟩ → ∀ i, i < n → w.cell? ⟨b, off + i, none⟩ = some (.int .u16 (F i))) :
    Calls Try.prog 5 #[.int .u64 r, .int .u64 now, .slice A n c] w fun e w' => e = .returned (.bool true) ∧ Below w.heap.size w w' := by
  unfold maxLen at hm
  obtain ⟨r0, r1⟩ := hr
  obtain ⟨n0, n1⟩ := hn
  by_cases hbig : 300 < n
  · clear hA hF hC
    go_enter Try.func5, Try.ntmps5
    go_wp2_with fail
    with_reducible refine (linkAwake w).mono ?_
    rintro e w1 ⟨rfl, hb1⟩
    go_wp2_with fail
    go_ret
    exact ⟨rfl, hb1⟩
  · have hbig2 : n ≤ 300 := by omega
    by_cases hbad : r < 1 ∨ 1048576 < r
    · clear hA hF hC
      go_enter Try.func5, Try.ntmps5
      go_wp2_with fail
      with_reducible refine (linkAwake w).mono ?_
      rintro e w1 ⟨rfl, hb1⟩
      go_wp2_with fail
      with_reducible refine (new_none r _ r0 hbad).mono ?_
      rintro e w2 ⟨rfl, rfl⟩
      clear hbad
      go_wp2_with fail
      go_ret
      exact ⟨rfl, hb1⟩
    · have hr0 : 0 < r := by omega
      have hr2 : r ≤ 1048576 := by omega
      have hbig3 : decide ((300 : Int) < (n : Int)) = false := decide_eq_false (by omega)
      have HF := Lib.hid hF
      have HC := Lib.hid hC
      have HA := Lib.hid hA
      clear hbad hA hF hC
      go_enter Try.func5, Try.ntmps5
      go_wp2_with fail
      with_reducible refine (linkAwake w).mono ?_
      rintro e w1 ⟨rfl, hb1⟩
      go_wp2_with fail
      with_reducible refine (new_made r _ (by omega) hr2).mono ?_
      rintro e w2 ⟨rfl, hw2⟩
      obtain ⟨b, hb⟩ : ∃ b, w1.heap.size = b := ⟨_, rfl⟩
      have L2 : IsLink w2 b r 0 true := by rw [hw2, ← hb]; exact Blk.new _ _ _
      have B2 : Below w.heap.size w w2 := by rw [hw2]; exact hb1.alloc hb1.size _
      have hle : w.heap.size ≤ b := by have := hb1.size; omega
      rw [hb]
      clear hw2 hb hb1
      obtain ⟨first, hfirst⟩ : ∃ x, now % 1073741824 = x := ⟨_, rfl⟩
      have f0 : 0 ≤ first := by omega
      have f1 : first < 1073741824 := by omega
      go_wp2_with fail
      rw [hfirst]
      clear hfirst n0 n1
      go_loopg [1, 10, 11] n (fun g nw sm ix wr => ∃ k : Nat, k + g = n ∧ ix = .int .i64 k ∧ nw = .int .u64 (first + upDiv (sumG F k) r) ∧ sm = .int .u64 (sumG F k) ∧ IsLink wr b r (takG first r (sumG F k) k) (k == 0) ∧ Below w.heap.size w wr)
      case atStart => exact ⟨0, by omega, rfl, by rw [show sumG F 0 = 0 from rfl, upDiv_zero hr0, Int.add_zero], rfl, L2, B2⟩
      case round =>
        obtain ⟨k, hk, rfl, rfl, rfl, L, B⟩ := hrel
        clear L2 B2
        by_cases hlt : k < n
        · obtain ⟨bA, off, rfl, hbA⟩ := HA.out (by omega)
          have ck := HC.out _ _ rfl k hlt
          obtain ⟨v0, v1⟩ := HF.out k hlt
          have cw : wr.cell? ⟨bA, off + k, none⟩ = some (.int .u16 (F k)) := (B.cell (p := ⟨bA, off + k, none⟩) hbA).trans ck
          obtain ⟨x, hx⟩ : ∃ x, F k = x := ⟨_, rfl⟩
          have HX := Lib.hid hx
          rw [hx] at v0 v1 ck cw
          clear hx
          obtain ⟨len, hlen⟩ : ∃ l, 1 + x % 1500 = l := ⟨_, rfl⟩
          have len0 : 1 ≤ len := by omega
          have len1 : len ≤ 1500 := by omega
          obtain ⟨S, hS⟩ : ∃ S, sumG F k = S := ⟨_, rfl⟩
          obtain ⟨s0, s1⟩ := sumG_bounds F k
          have hfrom := Lib.hid (exact_from F first r k hr0)
          have hwrong := Lib.hid (exact_wrong F first r len k hr0 f0 f1 (by omega) len0 len1)
          obtain ⟨t0, t1, t2⟩ := takG_bounds F first r k hr0 hr2 f0 f1 (by omega)
          have hnow := upDiv_le hr0 s0
          have hnow0 := upDiv_nonneg hr0 s0
          rw [hS] at s0 s1 hfrom hwrong t0 t1 hnow hnow0 L ⊢
          have HS := Lib.hid hS
          clear hS
          obtain ⟨T, hT⟩ : ∃ T, takG first r S k = T := ⟨_, rfl⟩
          rw [hT] at hfrom hwrong t0 t1 L
          have HT := Lib.hid hT
          clear hT
          obtain ⟨nw, hnw⟩ : ∃ x, first + upDiv S r = x := ⟨_, rfl⟩
          rw [hnw] at hfrom hwrong ⊢
          have nw0 : 0 ≤ nw := by omega
          have HNW := Lib.hid hnw
          clear hnw
          obtain ⟨I, hI⟩ : ∃ I, (k == 0) = I := ⟨_, rfl⟩
          rw [hI] at hfrom L
          clear hI
          clear hnow hnow0
          -- behind the send
          obtain ⟨S', hS'⟩ : ∃ S', S + len * 256 = S' := ⟨_, rfl⟩
          have hT' : sendFrom T r nw I + len * 256 = first * r + S' := by rw [hfrom.out]; omega
          obtain ⟨T', hT2⟩ : ∃ T', first * r + S' = T' := ⟨_, rfl⟩
          rw [hT2] at hT'
          have hfr : 0 ≤ first * r := Int.mul_nonneg f0 (by omega)
          have hT0 : 0 < T' := by omega
          have hT1 : T' ≤ 9223372036854775808 := by omega
          have hto : upDiv T' r = first + upDiv S' r := by rw [← hT2, upDiv_add _ _ _ hr0]
          have hup := upDiv_rem hr0 (g := S') (by omega)
          have hpos := upDiv_pos hr0 hT0
          have hle2 := upDiv_le hr0 (g := T') (by omega)
          obtain ⟨tt, hto2⟩ : ∃ x, upDiv T' r = x := ⟨_, rfl⟩
          rw [hto2] at hto hpos hle2
          have hfree : freeB T' r (tt - 1) = false := by unfold freeB; rw [hto2]; exact decide_eq_false (by omega)
          have S'0 : 0 ≤ S' := by omega
          have S'1 : S' ≤ 1000000000 := by omega
          have HT' := Lib.hid hT'
          have HTO := Lib.hid hto2
          have HTO' := Lib.hid hto
          have HFREE := Lib.hid hfree
          have HUP := Lib.hid hup
          have HT2 := Lib.hid hT2
          have HSS : Hid (sumG F (k + 1) = S') := by unfold Hid; rw [sumG, HS.out, HX.out, hlen]; exact hS'
          have HN : Hid (first + upDiv (sumG F (k + 1)) r = tt) := by unfold Hid; rw [HSS.out, hto]
          have HTK : Hid (takG first r (sumG F (k + 1)) (k + 1) = T') := by unfold Hid; rw [HSS.out, takG, if_neg (by omega), hT2]
          clear hT' hto2 hto hfree hup hT2 hfr ck HC HF HA
          go_wp2_with fail
          with_reducible refine (length_any x _ v0 v1).mono ?_
          rintro e w3 ⟨rfl, rfl⟩
          rw [hlen]
          go_wp2_with fail
          with_reducible refine (send_good b r T nw len I _ L hr0 hr2 t0 (by omega) nw0 hwrong.out).mono ?_
          rw [HT'.out, HTO.out]
          rintro e w3 ⟨rfl, L3, F3⟩
          have B3 := B.trans (F3.below (B := w.heap.size) B.size (fun q hq e => by omega))
          have c3 : w3.cell? ⟨bA, off + k, none⟩ = some (.int .u16 x) := (F3.cell (p := ⟨bA, off + k, none⟩) (World.block_lt_of_cell? _ _ cw) (by show ¬ bA = b; omega)).trans cw
          clear L B F3 cw
          go_wp2_with fail
          with_reducible refine (length_any x _ v0 v1).mono ?_
          rintro e w4 ⟨rfl, rfl⟩
          rw [hlen]
          have q0 : 0 ≤ S' / r := Int.ediv_nonneg (by omega) (by omega)
          have q1 : S' / r ≤ 1000000000 := Int.le_trans (Int.ediv_le_self _ S'0) S'1
          obtain ⟨q, hq⟩ : ∃ q, S' / r = q := ⟨_, rfl⟩
          rw [hq] at q0 q1
          obtain ⟨md, hmd⟩ : ∃ q, S' % r = q := ⟨_, rfl⟩
          rw [hq, hmd] at HUP
          by_cases hrem : 0 < md
          · have hup := HUP.out.1 hrem
            have hne : first + (q + 1) = tt := by rw [hup, ← HTO'.out]
            clear hup
            go_wp2_with fail
            with_reducible refine (until_made b r T' _ L3.c0 L3.c1 hr0 hr2 (by omega) hT1).mono ?_
            rw [HTO.out]
            rintro e w4 ⟨rfl, m4, hw4⟩
            have L4 : IsLink w4 b r T' false := by rw [hw4]; exact L3
            have B4 : Below w.heap.size w w4 := by rw [hw4]; exact below_drewN' B3 m4
            clear hw4 L3 B3 c3
            go_wp2_with fail
            with_reducible refine (free_made b r T' (tt - 1) _ L4.c0 L4.c1 hr0 hr2 (by omega) hT1).mono ?_
            rw [HFREE.out]
            rintro e w5 ⟨rfl, m5, hw5⟩
            have L5 : IsLink w5 b r T' false := by rw [hw5]; exact L4
            have B5 : Below w.heap.size w w5 := by rw [hw5]; exact below_drewN' B4 m5
            clear hw5 L4 B4
            go_wp2_with fail
            with_reducible refine (idles_made b r T' false _ L5 hr0).mono ?_
            rintro e w6 ⟨rfl, rfl⟩
            go_wp2_with fail
            go_roundg (gk - 1)
            case rel =>
              refine ⟨k + 1, by omega, by go_num, ?_, ?_, ?_, B5⟩
              · rw [HN.out]
              · rw [HSS.out]
              · rw [HTK.out]; exact L5
            case measure => omega
          · have hrem2 : md ≤ 0 := by omega
            have hup := HUP.out.2 hrem2
            have hne : first + q = tt := by rw [hup, ← HTO'.out]
            clear hup
            go_wp2_with fail
            with_reducible refine (until_made b r T' _ L3.c0 L3.c1 hr0 hr2 (by omega) hT1).mono ?_
            rw [HTO.out]
            rintro e w4 ⟨rfl, m4, hw4⟩
            have L4 : IsLink w4 b r T' false := by rw [hw4]; exact L3
            have B4 : Below w.heap.size w w4 := by rw [hw4]; exact below_drewN' B3 m4
            clear hw4 L3 B3 c3
            go_wp2_with fail
            with_reducible refine (free_made b r T' (tt - 1) _ L4.c0 L4.c1 hr0 hr2 (by omega) hT1).mono ?_
            rw [HFREE.out]
            rintro e w5 ⟨rfl, m5, hw5⟩
            have L5 : IsLink w5 b r T' false := by rw [hw5]; exact L4
            have B5 : Below w.heap.size w w5 := by rw [hw5]; exact below_drewN' B4 m5
            clear hw5 L4 B4
            go_wp2_with fail
            with_reducible refine (idles_made b r T' false _ L5 hr0).mono ?_
            rintro e w6 ⟨rfl, rfl⟩
            go_wp2_with fail
            go_roundg (gk - 1)
            case rel =>
              refine ⟨k + 1, by omega, by go_num, ?_, ?_, ?_, B5⟩
              · rw [HN.out]
              · rw [HSS.out]
              · rw [HTK.out]; exact L5
            case measure => omega
        · go_wp2_with fail
          go_ret
          exact ⟨rfl, B⟩

theorem linkExact_walk (w : World) (a0 : Int) (f0 : (Lit.int .u64 a0).wf = true) (a1 : Int) (f1 : (Lit.int .u64 a1).wf = true) (A : Option Addr) (n c : Nat) (F : Nat → Int) (fF : ∀ i, i < n → (Lit.int .u16 (F i)).wf = true) (hl : n ≤ c) (hm : c ≤ maxLen)
    (hA : 0 < n → ∃ b off, A = some ⟨b, off, none⟩ ∧ b < w.heap.size) (hC : ∀ b off, A = some ⟨b, off, none⟩ → ∀ i, i < n → w.cell? ⟨b, off + (i * 1 + 0), none⟩ = some (.int .u16 (F i))) :
    Calls Try.prog 5 #[.int .u64 a0, .int .u64 a1, .slice A n c] w fun e w' => e = .returned (.bool true) ∧ Below w.heap.size w w' :=
  linkExact_at a0 a1 A n c F w (word_of_wf f0) (word_of_wf f1) (Nat.le_trans hl hm) hA (fun i hi => by have := bounds_u16 (fF i hi); omega) (fun b off h i hi => by have := hC b off h i hi; simpa using this)

end Go.Proofs.Ytmfikclnidbncaa
