/-
  The walk of the law LinkAlone: what is sent behind an idling.
-/
import Derived.Test.YtmfikclnidbncaaProg
import Derived.Test.YtmfikclnidbncaaLinkA
import Derived.Test.YtmfikclnidbncaaLinkB
import Derived.Test.YtmfikclnidbncaaLinkAwake
import Derived.Test.YtmfikclnidbncaaLinkExact
namespace Go.Proofs.Ytmfikclnidbncaa
set_option linter.unusedVariables false
set_option linter.unusedSimpArgs false
open Go.RowKit

/-! ### The plain law -/
theorem upDiv_mul {g r : Int} (hr : 0 < r) : g ≤ upDiv g r * r := by
  unfold upDiv
  have h1 := Int.mul_ediv_add_emod (g + r - 1) r
  have h3 := Int.emod_lt_of_pos (g + r - 1) hr
  rw [Int.mul_comm] at h1
  omega
theorem upDiv_lt {g m r : Int} (hr : 0 < r) (h : g ≤ m * r) : upDiv g r ≤ m := by
  unfold upDiv
  have : (g + r - 1) / r < m + 1 := Int.ediv_lt_of_lt_mul hr (by rw [Int.add_mul]; omega)
  omega
theorem upDiv_plus {t g r : Int} (hr : 0 < r) (ht : 0 ≤ t) (hg : 0 ≤ g) : upDiv (t + g) r ≤ upDiv t r + g := by
  refine upDiv_lt hr ?_
  have h1 := upDiv_mul (g := t) hr
  have h2 : g * 1 ≤ g * r := Int.mul_le_mul_of_nonneg_left (by omega) hg
  rw [Int.add_mul]
  omega
theorem upDiv_mono {a b r : Int} (hr : 0 < r) (h : a ≤ b) : upDiv a r ≤ upDiv b r := by
  unfold upDiv; exact Int.ediv_le_ediv hr (by omega)
theorem upDiv_anti {g r s : Int} (hr : 0 < r) (h : r ≤ s) (hg : 0 ≤ g) : upDiv g s ≤ upDiv g r := by
  refine upDiv_lt (by omega) ?_
  have h1 := upDiv_mul (g := g) hr
  have h2 : upDiv g r * r ≤ upDiv g r * s := Int.mul_le_mul_of_nonneg_left h (upDiv_nonneg hr hg)
  omega

/-- What a link that is well took: not too much. -/
def TakOk (r T : Int) (k : Nat) : Prop := 0 ≤ T ∧ upDiv T r ≤ 1073741824 + 384000 * k

theorem TakOk.lims {r T : Int} {k : Nat} (h : TakOk r T k) (hr : 0 < r) (hr2 : r ≤ 1048576) (hk : k ≤ 200) : 0 ≤ T ∧ T ≤ 4611686018427387904 ∧ upDiv T r ≤ 1150541824 ∧ 0 ≤ upDiv T r := by
  obtain ⟨h0, h1⟩ := h
  have h2 := upDiv_mul (g := T) hr
  have h3 := upDiv_nonneg hr h0
  have h4 : upDiv T r * r ≤ upDiv T r * 1048576 := Int.mul_le_mul_of_nonneg_left hr2 h3
  omega
theorem TakOk.more {r T now n : Int} {i : Bool} {k : Nat} (h : TakOk r T k) (hr : 0 < r) (n0 : 0 ≤ now) (n1 : now ≤ 1073741824) (h1 : 1 ≤ n) (h2 : n ≤ 1500) : TakOk r (sendFrom T r now i + n * 256) (k + 1) := by
  obtain ⟨a, b⟩ := h
  unfold TakOk sendFrom
  have hnr : 0 ≤ now * r := Int.mul_nonneg n0 (by omega)
  split
  · have := upDiv_plus (t := T) (g := n * 256) hr a (by omega)
    exact ⟨by omega, by omega⟩
  · rw [upDiv_add _ _ _ hr]
    have := upDiv_le (g := n * 256) hr (by omega)
    exact ⟨by omega, by omega⟩

theorem wrong_free {t r now n : Int} (h1 : now ≤ 1099511627776) (h2 : 1 ≤ n) (h3 : n < 65536) (h4 : upDiv t r ≤ now) : wrongN t r now n = 0 := by
  unfold wrongN freeB
  rw [if_neg (by omega), if_neg (by omega), decide_eq_true h4]
  rfl

theorem lenCap_bounds (n : Int) (h : 1 ≤ n) : 1 ≤ lenCap n ∧ lenCap n ≤ 65536 := by
  unfold lenCap; split <;> omega
theorem lenCap_mono {a b : Int} (h : a ≤ b) : lenCap a ≤ lenCap b := by
  unfold lenCap; split <;> split <;> omega
theorem lenCap_small {n : Int} (h : n < 65536) : lenCap n = n := by unfold lenCap; rw [if_pos h]

theorem long_any (A : Option Addr) (n c : Nat) (w : World) : Calls Try.prog 35 #[.slice A n c] w fun e w' => e = .returned (.bool (decide ((200 : Int) < (n : Int)))) ∧ w = w' := by
  go_enter Try.func35, Try.ntmps35
  go_wp2_with fail
  go_ret
  exact ⟨rfl, rfl⟩

set_option maxHeartbeats 1000000 in
theorem linkAlone_at (r other : Int) (A : Option Addr) (n c : Nat) (K Af Ln : Nat → Int) (m more : Int) (w : World) (hr : Word r) (ho : Word other) (hm : n ≤ maxLen) (hA : 0 < n → ∃ b off, A = some ⟨b, off, none⟩ ∧ b < w.heap.size)
    (hAf : ∀ i, i < n → Word (Af i)) (hLn : ∀ i, i < n → -9223372036854775808 ≤ Ln i ∧ Ln i ≤ 9223372036854775807) (hm0 : 0 ≤ m) (hm1 : m ≤ 65535) (hmo0 : 0 ≤ more) (hmo1 : more ≤ 65535)
    (hC1 : ∀ b off, A = some ⟨b, off, none⟩ → ∀ i, i < n → w.cell? ⟨b, off + (i * 3 + 1), none⟩ = some (.int .u64 (Af i))) (hC2 : ∀ b off, A = some ⟨b, off, none⟩ → ∀ i, i < n → w.cell? ⟨b, off + (i * 3 + 2), none⟩ = some (.int .i64 (Ln i))) :
    Calls Try.prog 7 #[.int .u64 r, .int .u64 other, .slice A n c, .int .u16 m, .int .u16 more] w fun e w' => e = .returned (.bool true) ∧ Below w.heap.size w w' := by
  unfold maxLen at hm
  obtain ⟨r0, r1⟩ := hr
  obtain ⟨o0, o1⟩ := ho
  by_cases hbig : 200 < n
  · clear hA hAf hLn hC1 hC2
    have hb3 : decide ((200 : Int) < (n : Int)) = true := decide_eq_true (by omega)
    go_enter Try.func7, Try.ntmps7
    go_wp2_with fail
    with_reducible refine (linkAwake w).mono ?_
    rintro e w1 ⟨rfl, hb1⟩
    go_wp2_with fail
    with_reducible refine (long_any A n c _).mono ?_
    rintro e w2 ⟨rfl, rfl⟩
    go_wp2_with fail
    go_ret
    exact ⟨rfl, hb1⟩
  · have hbig2 : n ≤ 200 := by omega
    have hb3 : decide ((200 : Int) < (n : Int)) = false := decide_eq_false (by omega)
    by_cases hbad : r < 1 ∨ 1048576 < r
    · clear hA hAf hLn hC1 hC2
      go_enter Try.func7, Try.ntmps7
      go_wp2_with fail
      with_reducible refine (linkAwake w).mono ?_
      rintro e w1 ⟨rfl, hb1⟩
      go_wp2_with fail
      with_reducible refine (long_any A n c _).mono ?_
      rintro e w2 ⟨rfl, rfl⟩
      go_wp2_with fail
      with_reducible refine (new_none r _ r0 hbad).mono ?_
      rintro e w2 ⟨rfl, rfl⟩
      clear hbad
      go_wp2_with fail
      go_ret
      exact ⟨rfl, hb1⟩
    · have hr0 : 0 < r := by omega
      have hr2 : r ≤ 1048576 := by omega
      have HAF := Lib.hid hAf
      have HLN := Lib.hid hLn
      have HC1 := Lib.hid hC1
      have HC2 := Lib.hid hC2
      have HA := Lib.hid hA
      clear hbad hA hAf hLn hC1 hC2
      go_enter Try.func7, Try.ntmps7
      go_wp2_with fail
      with_reducible refine (linkAwake w).mono ?_
      rintro e w1 ⟨rfl, hb1⟩
      go_wp2_with fail
      with_reducible refine (long_any A n c _).mono ?_
      rw [hb3]
      rintro e w2 ⟨rfl, rfl⟩
      clear hb3
      go_wp2_with fail
      with_reducible refine (new_made r _ (by omega) hr2).mono ?_
      rintro e w2 ⟨rfl, hw2⟩
      obtain ⟨b, hb⟩ : ∃ b, w1.heap.size = b := ⟨_, rfl⟩
      have L2 : IsLink w2 b r 0 true := by rw [hw2, ← hb]; exact Blk.new _ _ _
      have B2 : Below w.heap.size w w2 := by rw [hw2]; exact hb1.alloc hb1.size _
      have hle : w.heap.size ≤ b := by have := hb1.size; omega
      rw [hb]
      clear hw2 hb hb1
      go_wp2_with fail
      go_loopg [13, 14] n (fun g nw ix wr => ∃ (k : Nat) (T x : Int) (I : Bool), k + g = n ∧ ix = .int .i64 k ∧ nw = .int .u64 x ∧ 0 ≤ x ∧ x ≤ 1073741824 ∧ TakOk r T k ∧ IsLink wr b r T I ∧ Below w.heap.size w wr)
      case atStart => exact ⟨0, 0, 0, true, by omega, rfl, rfl, by omega, by omega, ⟨by omega, by rw [upDiv_zero hr0]; omega⟩, L2, B2⟩
      case round =>
        obtain ⟨k, T, x, I, hk, rfl, rfl, x0, x1, hT, L, B⟩ := hrel
        clear L2 B2
        obtain ⟨t0, t1, t2, t3⟩ := hT.lims hr0 hr2 (by omega)
        have HT := Lib.hid hT
        clear hT
        by_cases hlt : k < n
        · obtain ⟨bA, off, rfl, hbA⟩ := HA.out (by omega)
          have ck1 := HC1.out _ _ rfl k hlt
          have ck2 := HC2.out _ _ rfl k hlt
          obtain ⟨v0, v1⟩ := HAF.out k hlt
          obtain ⟨u0, u1⟩ := HLN.out k hlt
          have cw1 : wr.cell? ⟨bA, off + k * 3 + 1, none⟩ = some (.int .u64 (Af k)) := by rw [Nat.add_assoc]; exact (B.cell (p := ⟨bA, off + (k * 3 + 1), none⟩) hbA).trans ck1
          have cw2 : wr.cell? ⟨bA, off + k * 3 + 2, none⟩ = some (.int .i64 (Ln k)) := by rw [Nat.add_assoc]; exact (B.cell (p := ⟨bA, off + (k * 3 + 2), none⟩) hbA).trans ck2
          clear ck1 ck2
          obtain ⟨a, ha⟩ : ∃ x, Af k = x := ⟨_, rfl⟩
          obtain ⟨l, hl⟩ : ∃ x, Ln k = x := ⟨_, rfl⟩
          rw [ha] at v0 v1 cw1
          rw [hl] at u0 u1 cw2
          clear ha hl HC1 HC2 HAF HLN HA
          obtain ⟨y, hy⟩ : ∃ y, IntKind.u16.wrap l = y := ⟨_, rfl⟩
          have y0 : 0 ≤ y ∧ y ≤ 65535 := by rw [← hy, IntKind.wrap_u16]; omega
          obtain ⟨y0, y1⟩ := y0
          obtain ⟨len, hlen⟩ : ∃ l, 1 + y % 1500 = l := ⟨_, rfl⟩
          have len0 : 1 ≤ len := by omega
          have len1 : len ≤ 1500 := by omega
          by_cases hmin : x + a % 1000 ≤ 1073741824
          · go_wp2_with fail
            with_reducible refine (length_any y _ y0 y1).mono ?_
            rintro e w3 ⟨rfl, rfl⟩
            rw [hlen]
            go_wp2_with fail
            by_cases hw0 : wrongN T r (x + a % 1000) len = 0
            · with_reducible refine (send_good b r T (x + a % 1000) len I _ L hr0 hr2 t0 t1 (by omega) hw0).mono ?_
              rintro e w3 ⟨rfl, L3, F3⟩
              have B3 := B.trans (F3.below (B := w.heap.size) B.size (fun q hq e => by omega))
              have HT3 : Hid (TakOk r (sendFrom T r (x + a % 1000) I + len * 256) (k + 1)) := HT.out.more hr0 (by omega) (by omega) len0 len1
              clear L B F3 cw1 cw2 hw0
              go_wp2_with fail
              go_roundg (gk - 1)
              case rel => exact ⟨k + 1, _, _, false, by omega, by go_num, rfl, by omega, by omega, HT3.out, L3, B3⟩
              case measure => omega
            · with_reducible refine (send_bad b r T (x + a % 1000) len I _ L hr0 hr2 t0 (by omega) hw0).mono ?_
              rintro e w3 ⟨rfl, F3⟩
              have L3 : IsLink w3 b r T I := Blk.next L F3
              have B3 := below_next B F3
              have HT3 : Hid (TakOk r T (k + 1)) := ⟨HT.out.1, by have := HT.out.2; omega⟩
              clear L B F3 cw1 cw2 hw0
              go_wp2_with fail
              go_roundg (gk - 1)
              case rel => exact ⟨k + 1, _, _, I, by omega, by go_num, rfl, by omega, by omega, HT3.out, L3, B3⟩
              case measure => omega
          · have hmin2 : 1073741824 < x + a % 1000 := by omega
            go_wp2_with fail
            with_reducible refine (length_any y _ y0 y1).mono ?_
            rintro e w3 ⟨rfl, rfl⟩
            rw [hlen]
            go_wp2_with fail
            by_cases hw0 : wrongN T r (1073741824) len = 0
            · with_reducible refine (send_good b r T (1073741824) len I _ L hr0 hr2 t0 t1 (by omega) hw0).mono ?_
              rintro e w3 ⟨rfl, L3, F3⟩
              have B3 := B.trans (F3.below (B := w.heap.size) B.size (fun q hq e => by omega))
              have HT3 : Hid (TakOk r (sendFrom T r (1073741824) I + len * 256) (k + 1)) := HT.out.more hr0 (by omega) (by omega) len0 len1
              clear L B F3 cw1 cw2 hw0
              go_wp2_with fail
              go_roundg (gk - 1)
              case rel => exact ⟨k + 1, _, _, false, by omega, by go_num, rfl, by omega, by omega, HT3.out, L3, B3⟩
              case measure => omega
            · with_reducible refine (send_bad b r T (1073741824) len I _ L hr0 hr2 t0 (by omega) hw0).mono ?_
              rintro e w3 ⟨rfl, F3⟩
              have L3 : IsLink w3 b r T I := Blk.next L F3
              have B3 := below_next B F3
              have HT3 : Hid (TakOk r T (k + 1)) := ⟨HT.out.1, by have := HT.out.2; omega⟩
              clear L B F3 cw1 cw2 hw0
              go_wp2_with fail
              go_roundg (gk - 1)
              case rel => exact ⟨k + 1, _, _, I, by omega, by go_num, rfl, by omega, by omega, HT3.out, L3, B3⟩
              case measure => omega
        · clear HC1 HC2 HAF HLN HA HT hk
          obtain ⟨len, hlen⟩ : ∃ l, 1 + m % 1500 = l := ⟨_, rfl⟩
          have len0 : 1 ≤ len := by omega
          have len1 : len ≤ 1500 := by omega
          have HLC : Hid (lenCap len = len) := lenCap_small (by omega)
          have ha0 := upDiv_pos (g := len * 256) hr0 (by omega)
          have ha1 := upDiv_le (g := len * 256) hr0 (by omega)
          have hab := upDiv_mono (a := len * 256) (b := lenCap (len + more) * 256) hr0 (by have := lenCap_mono (a := len) (b := len + more) (by omega); rw [HLC.out] at this; omega)
          have hb1 := upDiv_le (g := lenCap (len + more) * 256) hr0 (by have := lenCap_bounds (len + more) (by omega); omega)
          have hb2 := (lenCap_bounds (len + more) (by omega)).2
          obtain ⟨a, ha⟩ : ∃ x, upDiv (len * 256) r = x := ⟨_, rfl⟩
          obtain ⟨bb, hbb⟩ : ∃ x, upDiv (lenCap (len + more) * 256) r = x := ⟨_, rfl⟩
          rw [ha] at ha0 ha1 hab
          rw [hbb] at hab hb1
          have HA1 := Lib.hid ha
          have HB1 := Lib.hid hbb
          clear ha hbb
          have hbb2 : bb ≤ 16777216 := by omega
          clear hb1 hb2
          by_cases hmx : upDiv T r ≤ x
          · go_wp2_with fail
            with_reducible refine (until_made b r T _ L.c0 L.c1 hr0 hr2 t0 (by omega)).mono ?_
            rintro e w3 ⟨rfl, m3, hw3⟩
            have L3 : IsLink w3 b r T I := by rw [hw3]; exact L
            have B3 : Below w.heap.size w w3 := by rw [hw3]; exact below_drewN' B m3
            clear hw3 L B
            go_wp2_with fail
            with_reducible refine (idle_made b r T (x) I _ L3 hr0 hr2 t0 (by omega)).mono ?_
            rw [show freeB T r (x) = true from decide_eq_true (by omega), Bool.or_true]
            rintro e w4 ⟨rfl, L4, F4⟩
            have B4 := B3.trans (F4.below (B := w.heap.size) B3.size (fun q hq e => by omega))
            clear L3 B3 F4
            go_wp2_with fail
            with_reducible refine (length_any m _ hm0 hm1).mono ?_
            rintro e w5 ⟨rfl, rfl⟩
            rw [hlen]
            go_wp2_with fail
            with_reducible refine (takes_made b r len _ L4.c0 hr0 hr2 len0).mono ?_
            rw [HLC.out, HA1.out]
            rintro e w5 ⟨rfl, m5, hw5⟩
            have L5 : IsLink w5 b r T true := by rw [hw5]; exact L4
            have B5 : Below w.heap.size w w5 := by rw [hw5]; exact below_drewN' B4 m5
            clear hw5 L4 B4
            go_wp2_with fail
            with_reducible refine (length_any m _ hm0 hm1).mono ?_
            rintro e w6 ⟨rfl, rfl⟩
            rw [hlen]
            go_wp2_with fail
            with_reducible refine (send_good b r T (x) len true _ L5 hr0 hr2 t0 t1 (by omega) (wrong_free (by omega) (by omega) (by omega) (by omega))).mono ?_
            rw [show sendFrom T r (x) true = (x) * r from rfl, upDiv_add _ _ _ hr0, HA1.out]
            rintro e w7 ⟨rfl, L7, F7⟩
            have B7 := B5.trans (F7.below (B := w.heap.size) B5.size (fun q hq e => by omega))
            clear L5 B5 F7
            go_wp2_with fail
            with_reducible refine (length_any m _ hm0 hm1).mono ?_
            rintro e w8 ⟨rfl, rfl⟩
            rw [hlen]
            go_wp2_with fail
            with_reducible refine (takes_made b r (len + more) _ L7.c0 hr0 hr2 (by omega)).mono ?_
            rw [HB1.out]
            rintro e w8 ⟨rfl, m8, hw8⟩
            have B8 : Below w.heap.size w w8 := by rw [hw8]; exact below_drewN' B7 m8
            clear hw8 L7 B7
            by_cases ho2 : other ≤ r
            · go_wp2_with fail
              with_reducible refine (new_made r _ (by omega) (by omega)).mono ?_
              rintro e w9 ⟨rfl, hw9⟩
              have L9 : IsLink w9 w8.heap.size r 0 true := by rw [hw9]; exact Blk.new _ _ _
              have B9 : Below w.heap.size w w9 := by rw [hw9]; exact B8.alloc B8.size _
              clear hw9
              go_wp2_with fail
              with_reducible refine (length_any m _ hm0 hm1).mono ?_
              rintro e w10 ⟨rfl, rfl⟩
              rw [hlen]
              go_wp2_with fail
              with_reducible refine (takes_made w8.heap.size r len _ L9.c0 (by omega) (by omega) len0).mono ?_
              rw [HLC.out]
              have hle3 : upDiv (len * 256) r ≤ a := by rw [← HA1.out]; exact upDiv_anti hr0 (by omega) (by omega)
              rintro e w10 ⟨rfl, m10, hw10⟩
              have B10 : Below w.heap.size w w10 := by rw [hw10]; exact below_drewN' B9 m10
              clear hw10 L9 B9 B8
              go_wp2_with fail
              go_ret
              exact ⟨rfl, B10⟩
            · have ho3 : r < other := by omega
              by_cases ho4 : other ≤ 1048576
              · go_wp2_with fail
                with_reducible refine (new_made other _ (by omega) (by omega)).mono ?_
                rintro e w9 ⟨rfl, hw9⟩
                have L9 : IsLink w9 w8.heap.size other 0 true := by rw [hw9]; exact Blk.new _ _ _
                have B9 : Below w.heap.size w w9 := by rw [hw9]; exact B8.alloc B8.size _
                clear hw9
                go_wp2_with fail
                with_reducible refine (length_any m _ hm0 hm1).mono ?_
                rintro e w10 ⟨rfl, rfl⟩
                rw [hlen]
                go_wp2_with fail
                with_reducible refine (takes_made w8.heap.size other len _ L9.c0 (by omega) (by omega) len0).mono ?_
                rw [HLC.out]
                have hle3 : upDiv (len * 256) other ≤ a := by rw [← HA1.out]; exact upDiv_anti hr0 (by omega) (by omega)
                rintro e w10 ⟨rfl, m10, hw10⟩
                have B10 : Below w.heap.size w w10 := by rw [hw10]; exact below_drewN' B9 m10
                clear hw10 L9 B9 B8
                go_wp2_with fail
                go_ret
                exact ⟨rfl, B10⟩
              · have ho5 : 1048576 < other := by omega
                go_wp2_with fail
                with_reducible refine (new_none other _ (by omega) (.inr (by omega))).mono ?_
                rintro e w9 ⟨rfl, rfl⟩
                go_wp2_with fail
                go_ret
                exact ⟨rfl, B8⟩
          · have hmx2 : x < upDiv T r := by omega
            go_wp2_with fail
            with_reducible refine (until_made b r T _ L.c0 L.c1 hr0 hr2 t0 (by omega)).mono ?_
            rintro e w3 ⟨rfl, m3, hw3⟩
            have L3 : IsLink w3 b r T I := by rw [hw3]; exact L
            have B3 : Below w.heap.size w w3 := by rw [hw3]; exact below_drewN' B m3
            clear hw3 L B
            go_wp2_with fail
            with_reducible refine (idle_made b r T (upDiv T r) I _ L3 hr0 hr2 t0 (by omega)).mono ?_
            rw [show freeB T r (upDiv T r) = true from decide_eq_true (by omega), Bool.or_true]
            rintro e w4 ⟨rfl, L4, F4⟩
            have B4 := B3.trans (F4.below (B := w.heap.size) B3.size (fun q hq e => by omega))
            clear L3 B3 F4
            go_wp2_with fail
            with_reducible refine (length_any m _ hm0 hm1).mono ?_
            rintro e w5 ⟨rfl, rfl⟩
            rw [hlen]
            go_wp2_with fail
            with_reducible refine (takes_made b r len _ L4.c0 hr0 hr2 len0).mono ?_
            rw [HLC.out, HA1.out]
            rintro e w5 ⟨rfl, m5, hw5⟩
            have L5 : IsLink w5 b r T true := by rw [hw5]; exact L4
            have B5 : Below w.heap.size w w5 := by rw [hw5]; exact below_drewN' B4 m5
            clear hw5 L4 B4
            go_wp2_with fail
            with_reducible refine (length_any m _ hm0 hm1).mono ?_
            rintro e w6 ⟨rfl, rfl⟩
            rw [hlen]
            go_wp2_with fail
            with_reducible refine (send_good b r T (upDiv T r) len true _ L5 hr0 hr2 t0 t1 (by omega) (wrong_free (by omega) (by omega) (by omega) (by omega))).mono ?_
            rw [show sendFrom T r (upDiv T r) true = (upDiv T r) * r from rfl, upDiv_add _ _ _ hr0, HA1.out]
            rintro e w7 ⟨rfl, L7, F7⟩
            have B7 := B5.trans (F7.below (B := w.heap.size) B5.size (fun q hq e => by omega))
            clear L5 B5 F7
            go_wp2_with fail
            with_reducible refine (length_any m _ hm0 hm1).mono ?_
            rintro e w8 ⟨rfl, rfl⟩
            rw [hlen]
            go_wp2_with fail
            with_reducible refine (takes_made b r (len + more) _ L7.c0 hr0 hr2 (by omega)).mono ?_
            rw [HB1.out]
            rintro e w8 ⟨rfl, m8, hw8⟩
            have B8 : Below w.heap.size w w8 := by rw [hw8]; exact below_drewN' B7 m8
            clear hw8 L7 B7
            by_cases ho2 : other ≤ r
            · go_wp2_with fail
              with_reducible refine (new_made r _ (by omega) (by omega)).mono ?_
              rintro e w9 ⟨rfl, hw9⟩
              have L9 : IsLink w9 w8.heap.size r 0 true := by rw [hw9]; exact Blk.new _ _ _
              have B9 : Below w.heap.size w w9 := by rw [hw9]; exact B8.alloc B8.size _
              clear hw9
              go_wp2_with fail
              with_reducible refine (length_any m _ hm0 hm1).mono ?_
              rintro e w10 ⟨rfl, rfl⟩
              rw [hlen]
              go_wp2_with fail
              with_reducible refine (takes_made w8.heap.size r len _ L9.c0 (by omega) (by omega) len0).mono ?_
              rw [HLC.out]
              have hle3 : upDiv (len * 256) r ≤ a := by rw [← HA1.out]; exact upDiv_anti hr0 (by omega) (by omega)
              rintro e w10 ⟨rfl, m10, hw10⟩
              have B10 : Below w.heap.size w w10 := by rw [hw10]; exact below_drewN' B9 m10
              clear hw10 L9 B9 B8
              go_wp2_with fail
              go_ret
              exact ⟨rfl, B10⟩
            · have ho3 : r < other := by omega
              by_cases ho4 : other ≤ 1048576
              · go_wp2_with fail
                with_reducible refine (new_made other _ (by omega) (by omega)).mono ?_
                rintro e w9 ⟨rfl, hw9⟩
                have L9 : IsLink w9 w8.heap.size other 0 true := by rw [hw9]; exact Blk.new _ _ _
                have B9 : Below w.heap.size w w9 := by rw [hw9]; exact B8.alloc B8.size _
                clear hw9
                go_wp2_with fail
                with_reducible refine (length_any m _ hm0 hm1).mono ?_
                rintro e w10 ⟨rfl, rfl⟩
                rw [hlen]
                go_wp2_with fail
                with_reducible refine (takes_made w8.heap.size other len _ L9.c0 (by omega) (by omega) len0).mono ?_
                rw [HLC.out]
                have hle3 : upDiv (len * 256) other ≤ a := by rw [← HA1.out]; exact upDiv_anti hr0 (by omega) (by omega)
                rintro e w10 ⟨rfl, m10, hw10⟩
                have B10 : Below w.heap.size w w10 := by rw [hw10]; exact below_drewN' B9 m10
                clear hw10 L9 B9 B8
                go_wp2_with fail
                go_ret
                exact ⟨rfl, B10⟩
              · have ho5 : 1048576 < other := by omega
                go_wp2_with fail
                with_reducible refine (new_none other _ (by omega) (.inr (by omega))).mono ?_
                rintro e w9 ⟨rfl, rfl⟩
                go_wp2_with fail
                go_ret
                exact ⟨rfl, B8⟩

theorem linkAlone_walk (w : World) (a0 : Int) (f0 : (Lit.int .u64 a0).wf = true) (a1 : Int) (f1 : (Lit.int .u64 a1).wf = true) (A : Option Addr) (n c : Nat) (K : Nat → Int) (fK : ∀ i, i < n → (Lit.int .u8 (K i)).wf = true) (F : Nat → Int) (fF : ∀ i, i < n → (Lit.int .u64 (F i)).wf = true) (G : Nat → Int) (fG : ∀ i, i < n → (Lit.int .i64 (G i)).wf = true)
    (hl : n ≤ c) (hm : c ≤ maxLen) (hA : 0 < n → ∃ b off, A = some ⟨b, off, none⟩ ∧ b < w.heap.size) (hC0 : ∀ b off, A = some ⟨b, off, none⟩ → ∀ i, i < n → w.cell? ⟨b, off + (i * 3 + 0), none⟩ = some (.int .u8 (K i)))
    (hC1 : ∀ b off, A = some ⟨b, off, none⟩ → ∀ i, i < n → w.cell? ⟨b, off + (i * 3 + 1), none⟩ = some (.int .u64 (F i))) (hC2 : ∀ b off, A = some ⟨b, off, none⟩ → ∀ i, i < n → w.cell? ⟨b, off + (i * 3 + 2), none⟩ = some (.int .i64 (G i)))
    (a3 : Int) (f3 : (Lit.int .u16 a3).wf = true) (a4 : Int) (f4 : (Lit.int .u16 a4).wf = true) :
    Calls Try.prog 7 #[.int .u64 a0, .int .u64 a1, .slice A n c, .int .u16 a3, .int .u16 a4] w fun e w' => e = .returned (.bool true) ∧ Below w.heap.size w w' :=
  linkAlone_at a0 a1 A n c K F G a3 a4 w (word_of_wf f0) (word_of_wf f1) (Nat.le_trans hl hm) hA (fun i hi => word_of_wf (fF i hi)) (fun i hi => int_of_wf (fG i hi)) (by have := bounds_u16 f3; omega) (by have := bounds_u16 f3; omega) (by have := bounds_u16 f4; omega) (by have := bounds_u16 f4; omega) hC1 hC2

end Go.Proofs.Ytmfikclnidbncaa
