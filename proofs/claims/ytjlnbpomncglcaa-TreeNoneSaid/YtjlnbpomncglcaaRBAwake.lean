/-
  Chapter 8's examples.
-/
import Derived.Test.YtjlnbpomncglcaaProg
import Derived.Test.YtjlnbpomncglcaaRBLaw
namespace Go.Proofs.Ytjlnbpomncglcaa
set_option linter.unusedVariables false
set_option linter.unusedSimpArgs false
set_option maxRecDepth 100000
open Go.RowKit Go.Shelf

/-- Heights: at most twice the black ones, and one for a red one; as many items as that. -/
theorem RB.W.bounds {α : Type} {of : RK → Int → α} {join : α → α → α} : ∀ {t : RB α} {n : Nat}, RB.W of join t n → t.height ≤ 2 * n + (if t.red then 1 else 0) ∧ 2 ^ n ≤ t.size + 1
  | .nil, n, h => by
    have : n = 0 := h
    subst this
    exact ⟨Nat.zero_le _, by simp [RB.size]⟩
  | .node b c l k v s r, n, h => by
    obtain ⟨hr, hc, _, m, hl, hrr, hn⟩ := h
    obtain ⟨l1, l2⟩ := RB.W.bounds hl
    obtain ⟨r1, r2⟩ := RB.W.bounds hrr
    rw [hr] at r1
    simp only [Bool.false_eq_true, if_false, Nat.add_zero] at r1
    simp only [RB.height, RB.size, RB.red]
    cases c with
    | true =>
      rw [hc rfl] at l1
      simp only [Bool.false_eq_true, if_false, if_true, Nat.add_zero] at l1 hn ⊢
      subst hn
      exact ⟨by omega, by omega⟩
    | false =>
      simp only [Bool.false_eq_true, if_false, Nat.add_zero] at hn ⊢
      subst hn
      rw [Nat.pow_succ]
      refine ⟨?_, by omega⟩
      split at l1 <;> omega
theorem RB.W.half {α : Type} {of : RK → Int → α} {join : α → α → α} {t : RB α} {n : Nat} (h : RB.W of join t n) (hb : t.red = false) : 2 ^ (t.height / 2) ≤ t.size + 1 := by
  obtain ⟨h1, h2⟩ := h.bounds
  rw [hb] at h1
  simp only [Bool.false_eq_true, if_false, Nat.add_zero] at h1
  exact Nat.le_trans (Nat.pow_le_pow_right (by decide) (by omega)) h2
theorem height_le_size {α : Type} : ∀ t : RB α, t.height ≤ t.size
  | .nil => Nat.le_refl _
  | .node b c l k v s r => by
    have := height_le_size l
    have := height_le_size r
    simp only [RB.height, RB.size]
    omega
theorem size_le_pow {α : Type} : ∀ t : RB α, t.size + 1 ≤ 2 ^ t.height
  | .nil => by simp [RB.size, RB.height]
  | .node b c l k v s r => by
    have hl := size_le_pow l
    have hr := size_le_pow r
    simp only [RB.height, RB.size]
    have h1 : 2 ^ l.height ≤ 2 ^ (max l.height r.height) := Nat.pow_le_pow_right (by decide) (by omega)
    have h2 : 2 ^ r.height ≤ 2 ^ (max l.height r.height) := Nat.pow_le_pow_right (by decide) (by omega)
    rw [Nat.pow_succ]
    omega
/-- A well tree of three. -/
theorem height_three {t : RB Int} {n : Nat} (h : RB.W ofV minV t n) (hb : t.red = false) (hs : t.size = 3) : t.height = 2 := by
  have h4 := size_le_pow t
  rw [hs] at h4
  have hlow : 2 ≤ t.height := by
    rcases Nat.lt_or_ge t.height 2 with h | h
    · have : 2 ^ t.height ≤ 2 ^ 1 := Nat.pow_le_pow_right (by decide) (by omega)
      omega
    · exact h
  cases t with
  | nil => cases hs
  | node b c l k v s r =>
    have hc : c = false := hb
    subst hc
    obtain ⟨hr, _, _, m, hl, hrr, hn⟩ := h
    have hsz : l.size + r.size + 1 = 3 := hs
    obtain ⟨l1, l2⟩ := hl.bounds
    obtain ⟨r1, r2⟩ := hrr.bounds
    have hm : m = 0 ∨ m = 1 ∨ 2 ≤ m := by omega
    have l3 := size_le_pow l
    have l4 := height_le_size l
    have r4 := height_le_size r
    have r3 := size_le_pow r
    rcases hm with rfl | rfl | hm
    · exfalso
      rw [hr] at r1
      simp only [Bool.false_eq_true, if_false, Nat.mul_zero, Nat.add_zero] at r1
      have r5 : r.height = 0 := by omega
      rw [r5] at r3
      have : 2 ^ l.height ≤ 2 ^ 1 := Nat.pow_le_pow_right (by decide) (by split at l1 <;> omega)
      simp at r3
      omega
    · simp only [RB.height] at hlow ⊢
      have : l.size = 1 ∧ r.size = 1 := by
        rw [Nat.pow_one] at l2 r2
        omega
      omega
    · exfalso
      have : 2 ^ 2 ≤ 2 ^ m := Nat.pow_le_pow_right (by decide) hm
      omega

theorem awake_true (w : World) : Calls Try.prog 31 #[] w fun e w' => e = .returned (.bool true) ∧ Below w.heap.size w w' := by
  go_enter Try.func31, Try.ntmps31
  go_wp2_with fail
  with_reducible refine (ru_numbers _).mono ?_
  rintro e w1 ⟨T, rfl, h1, h2, h3⟩
  have H1 : Hid (TrAt w w1 T .nil) := ⟨h1, h2, (fun x hx => by cases hx), h3⟩
  clear h1 h2 h3
  have P1 := Lib.hid (ru_putAny T .nil (5, 1) 7 w1 H1.out.is (by decide))
  rw [show putE (5, 1) (RB.items (.nil : RB Int)) = 0 from rfl, show rput (5, 1) 7 (RB.items (.nil : RB Int)) = [((5, 1), 7)] from rfl] at P1
  go_wp2_with fail
  with_reducible refine (P1.out).mono ?_
  rintro e w2 ⟨rfl, t2, ht2, hi2⟩
  have H2 := Lib.hid (And.intro (H1.out.step ht2) hi2)
  have P2 := Lib.hid (ru_putAny T t2 (3, 2) 9 w2 H2.out.1.is (by rw [hi2]; decide))
  rw [hi2, show putE (3, 2) [((5, 1), 7)] = 0 from rfl, show rput (3, 2) 9 [((5, 1), 7)] = [((3, 2), 9), ((5, 1), 7)] from rfl] at P2
  clear ht2 hi2 P1
  go_wp2_with fail
  with_reducible refine (P2.out).mono ?_
  rintro e w3 ⟨rfl, t3, ht3, hi3⟩
  have H3 := Lib.hid (And.intro (H2.out.1.step ht3) hi3)
  have P3 := Lib.hid (ru_putAny T t3 (5, 0) 8 w3 H3.out.1.is (by rw [hi3]; decide))
  rw [hi3, show putE (5, 0) [((3, 2), 9), ((5, 1), 7)] = 0 from rfl, show rput (5, 0) 8 [((3, 2), 9), ((5, 1), 7)] = [((3, 2), 9), ((5, 0), 8), ((5, 1), 7)] from rfl] at P3
  clear ht3 hi3 P2
  go_wp2_with fail
  with_reducible refine (P3.out).mono ?_
  rintro e w4 ⟨rfl, t4, ht4, hi4⟩
  have H4 := Lib.hid (And.intro (H3.out.1.step ht4) hi4)
  have P4 := Lib.hid (ru_putAny T t4 (5, 0) 1 w4 H4.out.1.is (by rw [hi4]; decide))
  rw [hi4, show putE (5, 0) [((3, 2), 9), ((5, 0), 8), ((5, 1), 7)] = 80 from rfl, show rput (5, 0) 1 [((3, 2), 9), ((5, 0), 8), ((5, 1), 7)] = [((3, 2), 9), ((5, 0), 8), ((5, 1), 7)] from rfl] at P4
  clear ht4 hi4 P3
  go_wp2_with fail
  with_reducible refine (P4.out).mono ?_
  rintro e w5 ⟨rfl, t5, ht5, hi5⟩
  have H5 := Lib.hid (And.intro (H4.out.1.step ht5) hi5)
  have P5 := Lib.hid (ru_dropAny T t5 (4, 0) w5 H5.out.1.is (by rw [hi5]; decide))
  rw [hi5, show delE (4, 0) [((3, 2), 9), ((5, 0), 8), ((5, 1), 7)] = 81 from rfl, show del (4, 0) [((3, 2), 9), ((5, 0), 8), ((5, 1), 7)] = [((3, 2), 9), ((5, 0), 8), ((5, 1), 7)] from rfl] at P5
  clear ht5 hi5 P4
  go_wp2_with fail
  with_reducible refine (P5.out).mono ?_
  rintro e w6 ⟨rfl, t, ht6, hi6⟩
  have H6 := Lib.hid (And.intro (H5.out.1.step ht6) hi6)
  clear ht6 hi6 P5
  have FST := Lib.hid (ru_first _ t.items _ (overU T t) w6 H6.out.1.is)
  rw [H6.out.2, show firstK [((3, 2), 9), ((5, 0), 8), ((5, 1), 7)] = (3, 2) from rfl, show List.isEmpty [(((3, 2) : RK), (9 : Int)), ((5, 0), 8), ((5, 1), 7)] = false from rfl] at FST
  go_wp2_with fail
  with_reducible refine (FST.out).mono ?_
  rintro e w7 ⟨rfl, hb⟩
  have HB7 := Lib.hid hb
  clear hb FST
  go_upto_region 5 with (fail)
  have H7 := Lib.hid (H6.out.1.next HB7.out)
  have hb8 : Below w7.heap.size w7 (w7.alloc (.cells #[.int .u64 3, .int .i64 2] 31)) := by go_grown
  have b8 := Blk.new w7 31 #[.int .u64 3, .int .i64 2]
  generalize w7.heap.size = B7 at b8 ⊢
  generalize w7.alloc (.cells #[.int .u64 3, .int .i64 2] 31) = w8 at hb8 b8 ⊢
  have H8 := Lib.hid (And.intro (H7.out.next hb8) b8)
  clear hb8 b8
  have U4 := Lib.hid (ru_upto T t 4 w8 H8.out.1.is)
  rw [H6.out.2, show uptoU 4 [(((3, 2) : RK), (9 : Int)), ((5, 0), 8), ((5, 1), 7)] = some 9 from rfl] at U4
  go_wp2_with fail
  with_reducible refine (U4.out).mono ?_
  rintro e w9 ⟨rfl, hb⟩
  have H9 := Lib.hid (And.intro (H8.out.1.next hb) (H8.out.2.next hb))
  clear hb U4
  have AL := Lib.hid (ru_all T t w9 H9.out.1.is)
  have hall : allU t = 7 := by
    obtain ⟨n, hw⟩ := H9.out.1.is.well
    rw [allU_items hw, H6.out.2]
    rfl
  rw [hall, H6.out.2, show List.isEmpty [(((3, 2) : RK), (9 : Int)), ((5, 0), 8), ((5, 1), 7)] = false from rfl] at AL
  clear hall
  go_wp2_with fail
  with_reducible refine (AL.out).mono ?_
  rintro e w10 ⟨rfl, hb⟩
  have H10 := Lib.hid (And.intro (H9.out.1.next hb) (H9.out.2.next hb))
  clear hb AL
  have U2 := Lib.hid (ru_upto T t 2 w10 H10.out.1.is)
  rw [H6.out.2, show uptoU 2 [(((3, 2) : RK), (9 : Int)), ((5, 0), 8), ((5, 1), 7)] = none from rfl] at U2
  go_wp2_with fail
  with_reducible refine (U2.out).mono ?_
  rintro e w11 ⟨rfl, hb⟩
  have H11 := Lib.hid (And.intro (H10.out.1.next hb) (H10.out.2.next hb))
  clear hb U2
  have FD := Lib.hid (ru_find T t 8 w11 H11.out.1.is)
  rw [H6.out.2, show FindR 8 [(((3, 2) : RK), (9 : Int)), ((5, 0), 8), ((5, 1), 7)] = .returned (.tuple #[.agg #[.int .u64 5, .int .i64 0], .bool true]) from rfl] at FD
  go_wp2_with fail
  with_reducible refine (FD.out).mono ?_
  rintro e w12 ⟨rfl, hb⟩
  have H12 := Lib.hid (And.intro (H11.out.1.next hb) (H11.out.2.next hb))
  clear hb FD
  go_upto_region 9 with (fail)
  have hb13 : Below w12.heap.size w12 (w12.alloc (.cells #[.int .u64 5, .int .i64 0] 31)) := by go_grown
  have b13 := Blk.new w12 31 #[.int .u64 5, .int .i64 0]
  generalize w12.heap.size = B12 at b13 ⊢
  generalize w12.alloc (.cells #[.int .u64 5, .int .i64 0] 31) = w13 at hb13 b13 ⊢
  have H13 := Lib.hid (And.intro (H12.out.1.next hb13) (And.intro (H12.out.2.next hb13) b13))
  clear hb13 b13
  have xa := H13.out.2.1.get 0 rfl
  have xb := H13.out.2.1.get 1 rfl
  have xc := H13.out.2.2.get 0 rfl
  have xd := H13.out.2.2.get 1 rfl
  have hlen : ((t.items.length : Nat) : Int) = 3 := by rw [H6.out.2]; rfl
  have hsz : t.size = 3 := by rw [← RB.size_items, H6.out.2]; rfl
  have hhe : ((t.height : Nat) : Int) = 2 := by
    obtain ⟨n, hw⟩ := H13.out.1.is.well
    rw [height_three hw H13.out.1.is.black hsz]
    rfl
  have LN := Lib.hid (ru_len T t w13 H13.out.1.is)
  rw [hlen] at LN
  have HEI := Lib.hid (fun w h => ru_height T t w h (by omega))
  rw [hhe] at HEI
  have WEL := Lib.hid (fun w h => ru_Well T t w h (by omega))
  clear hlen hsz hhe
  go_wp2_with fail
  with_reducible refine (LN.out).mono ?_
  rintro e w14 ⟨rfl, hb⟩
  have H14 := Lib.hid (H13.out.1.next hb)
  clear hb LN xa xb xc xd
  go_wp2_with fail
  with_reducible refine (HEI.out w14 H14.out.is).mono ?_
  rintro e w15 ⟨rfl, hb⟩
  have H15 := Lib.hid (H14.out.next hb)
  clear hb
  go_wp2_with fail
  with_reducible refine (WEL.out w15 H15.out.is).mono ?_
  rintro e w16 ⟨rfl, hb⟩
  have H16 := Lib.hid (H15.out.next hb)
  clear hb
  go_wp2
  go_ret
  exact ⟨by simp, H16.out.below⟩

end Go.Proofs.Ytjlnbpomncglcaa
