/-
  The walk of the law OctetShort: a lesser number has no more bytes; each 7 bits more one more.
-/
import Derived.Test.YtdlpnhplldnlbaaProg
import Derived.Test.YtdlpnhplldnlbaaOctAwake
import Derived.Test.YtdlpnhplldnlbaaOctG
namespace Go.Proofs.Ytdlpnhplldnlbaa
set_option linter.unusedVariables false
set_option linter.unusedSimpArgs false
set_option maxRecDepth 100000
open Go.RowKit

theorem written_one (b : Nat) (k x : Int) (w : World) (k0 : 0 ≤ k) (k1 : k ≤ 255) (hx : Word x) (c0 : w.cell? ⟨b, 0, none⟩ = some (.int .u8 k)) (c1 : w.cell? ⟨b, 1, none⟩ = some (.int .u64 x)) :
    Calls Try.prog 35 #[.slice (some ⟨b, 0, none⟩) 1 1] w fun e w' => e = .returned (.tuple #[.string (bs (thingB k x)), .bool true]) ∧ Below w.heap.size w w' := by
  have hlt : b < w.heap.size := World.block_lt_of_cell? _ _ c0
  have hu : upto (fun _ => k) (fun _ => x) 1 = thingB k x := by simp [upto]
  have := written_any (some ⟨b, 0, none⟩) 1 1 (fun _ => k) (fun _ => x) w (by decide) (fun _ => ⟨b, 0, rfl, hlt⟩) (fun _ _ => ⟨k0, k1⟩) (fun _ _ => hx)
    (fun b' off e i hi => by injection e with e; injection e with e1 e2; subst e1 e2; obtain rfl : i = 0 := by omega
                             exact c0)
    (fun b' off e i hi => by injection e with e; injection e with e1 e2; subst e1 e2; obtain rfl : i = 0 := by omega
                             exact c1)
  have hl := thingB_len k x hx
  rw [hu, if_pos (by omega), decide_eq_true (by omega)] at this
  exact this

theorem numB_mono : ∀ (m n : Nat), m ≤ n → (numB m).length ≤ (numB n).length := by
  intro m
  induction m using Nat.strongRecOn with
  | _ m ih =>
    intro n h
    rcases Nat.lt_or_ge m 128 with h1 | h1
    · rw [numB_small h1]
      have := List.length_pos_iff.2 (numB_ne n)
      simp only [List.length_singleton]; exact this
    · rw [numB_more h1, numB_more (show 128 ≤ n by omega), List.length_cons, List.length_cons]
      have := ih (m / 128) (by omega) (n / 128) (by omega)
      omega
theorem numB_even (m : Nat) (h : m % 2 = 0) : (numB (m + 1)).length = (numB m).length := by
  rcases Nat.lt_or_ge m 128 with h1 | h1
  · rw [numB_small h1, numB_small (show m + 1 < 128 by omega)]; rfl
  · rw [numB_more h1, numB_more (show 128 ≤ m + 1 by omega), List.length_cons, List.length_cons, show (m + 1) / 128 = m / 128 by omega]
/-- How many bytes are left to count. -/
def leftB (m : Nat) : Nat := if m = 0 then 0 else (numB m).length
theorem leftB_start (n : Nat) : 1 + leftB (n / 128) = (numB n).length := by
  unfold leftB
  rcases Nat.lt_or_ge n 128 with h1 | h1
  · rw [numB_small h1, if_pos (by omega)]; rfl
  · rw [numB_more h1, if_neg (by omega), List.length_cons]; omega
theorem leftB_more {n : Nat} (h : 0 < n) : leftB n = 1 + leftB (n / 128) := by
  rw [leftB_start]
  unfold leftB
  rw [if_neg (by omega)]

set_option maxHeartbeats 4000000 in
theorem octetShort_1 (w : World) (a : Int) (fa : (Lit.int .u64 a).wf = true) (b : Int) (fb : (Lit.int .u64 b).wf = true) (n : Int) (fn : (Lit.int .i64 n).wf = true) (hxy : a < b) :
    Calls Try.prog 5 #[.int .u64 a, .int .u64 b, .int .i64 n] w fun e w' => e = .returned (.bool true) ∧ Below w.heap.size w w' := by
  have wa := word_of_wf fa
  have wb := word_of_wf fb
  obtain ⟨n0, n1⟩ := int_of_wf fn
  clear fa fb fn
  have AW := Lib.hid (fun w => octAwake w)
  obtain ⟨a0, a1⟩ := wa
  obtain ⟨b0, b1⟩ := wb
  have wx : Word a := ⟨a0, a1⟩
  have wy : Word b := ⟨b0, b1⟩
  -- the four texts
  obtain ⟨m, hm⟩ : ∃ m, IntKind.u64.wrap n = m := ⟨_, rfl⟩
  have wm : Word m := by rw [← hm, IntKind.wrap_u64]; exact ⟨by omega, by omega⟩
  obtain ⟨d, hd⟩ : ∃ d, (if n < 0 then -(n + 1) else n) = d := ⟨_, rfl⟩
  have hd0 : (n < 0 ∧ d = -(n + 1)) ∨ (0 ≤ n ∧ d = n) := by split at hd <;> omega
  have d0 : 0 ≤ d ∧ d ≤ 9223372036854775807 := by omega
  have wd : Word (2 * d) := ⟨by omega, by omega⟩
  have tu : thingB 2 m = numB (zz n).toNat := by
    rw [thingB2 (by decide)]
    have : IntKind.i64.wrap m = n := by rw [← hm, IntKind.wrap_u64, IntKind.wrap_i64]; omega
    rw [this]
  obtain ⟨X, hX⟩ : ∃ X, numB a.toNat = X := ⟨_, rfl⟩
  obtain ⟨Y, hY⟩ : ∃ X, numB b.toNat = X := ⟨_, rfl⟩
  obtain ⟨U, hU⟩ : ∃ X, numB (zz n).toNat = X := ⟨_, rfl⟩
  obtain ⟨V, hV⟩ : ∃ X, numB (2 * d).toNat = X := ⟨_, rfl⟩
  have lXY : X.length ≤ Y.length := by rw [← hX, ← hY]; exact numB_mono _ _ (by omega)
  have lX : 1 ≤ X.length := by rw [← hX]; exact List.length_pos_iff.2 (numB_ne _)
  have lY : Y.length ≤ 10 := by rw [← hY]; exact numB_ten (by omega)
  have lUV : Hid ((U.length : Int) = (V.length : Int)) := by
    unfold Hid
    rw [← hU, ← hV]
    congr 1
    unfold zz
    rcases hd0 with ⟨h1, h2⟩ | ⟨h1, h2⟩
    · rw [if_neg (by omega)]
      have e : (-2 * n - 1).toNat = (2 * d).toNat + 1 := by omega
      rw [e]
      exact numB_even _ (by omega)
    · rw [if_pos h1, h2]
  have sX := bs_size X
  have sY := bs_size Y
  have sU := bs_size U
  have sV := bs_size V
  have start := leftB_start a.toNat
  rw [hX] at start
  have F1 : Hid (∀ (W : World) (g : Nat), W.cell? ⟨g, 0, none⟩ = some (.int .u8 1) → W.cell? ⟨g, 1, none⟩ = some (.int .u64 a) → Calls Try.prog 35 #[.slice (some ⟨g, 0, none⟩) 1 1] W fun e w' => e = .returned (.tuple #[.string (bs X), .bool true]) ∧ Below W.heap.size W w') := by
    intro W g c0 c1; rw [← hX, ← thingB1 (k := 1) (n := a) (by decide)]; exact written_one g 1 a W (by decide) (by decide) wx c0 c1
  have F2 : Hid (∀ (W : World) (g : Nat), W.cell? ⟨g, 0, none⟩ = some (.int .u8 1) → W.cell? ⟨g, 1, none⟩ = some (.int .u64 b) → Calls Try.prog 35 #[.slice (some ⟨g, 0, none⟩) 1 1] W fun e w' => e = .returned (.tuple #[.string (bs Y), .bool true]) ∧ Below W.heap.size W w') := by
    intro W g c0 c1; rw [← hY, ← thingB1 (k := 1) (n := b) (by decide)]; exact written_one g 1 b W (by decide) (by decide) wy c0 c1
  have F3 : Hid (∀ (W : World) (g : Nat), W.cell? ⟨g, 0, none⟩ = some (.int .u8 2) → W.cell? ⟨g, 1, none⟩ = some (.int .u64 m) → Calls Try.prog 35 #[.slice (some ⟨g, 0, none⟩) 1 1] W fun e w' => e = .returned (.tuple #[.string (bs U), .bool true]) ∧ Below W.heap.size W w') := by
    intro W g c0 c1; rw [← hU, ← tu]; exact written_one g 2 m W (by decide) (by decide) wm c0 c1
  have F4 : Hid (∀ (W : World) (g : Nat), W.cell? ⟨g, 0, none⟩ = some (.int .u8 1) → W.cell? ⟨g, 1, none⟩ = some (.int .u64 (2 * d)) → Calls Try.prog 35 #[.slice (some ⟨g, 0, none⟩) 1 1] W fun e w' => e = .returned (.tuple #[.string (bs V), .bool true]) ∧ Below W.heap.size W w') := by
    intro W g c0 c1; rw [← hV, ← thingB1 (k := 1) (n := 2 * d) (by decide)]; exact written_one g 1 (2 * d) W (by decide) (by decide) wd c0 c1
  have HL := Lib.hid start
  have lXn : X.length ≤ 10 := by omega
  clear tu hX hY hU hV hd start wm wd wx wy
  go_enter Try.func5, Try.ntmps5
  go_wp2_with fail
  with_reducible refine (AW.out _).mono ?_
  rintro e w1 ⟨rfl, hb1⟩
  have B1 : Below w.heap.size w w1 := by first | with_reducible exact hb1 | exact Below.trans (by go_grown) (hb1.mono (by simp only [World.size_alloc]; omega))
  clear hb1
  go_wp2_with fail
  refine (F1.out _ _ ?_ ?_).mono ?_
  · simp
  · simp
  rintro e w2 ⟨rfl, hb2⟩
  have B2 := below_step B1 ((Below.refl _ _).alloc (Nat.le_refl _) _) hb2
  clear hb2 B1
  go_wp2_with fail
  refine (F2.out _ _ ?_ ?_).mono ?_
  · simp
  · simp
  rintro e w3 ⟨rfl, hb3⟩
  have B3 := below_step B2 ((Below.refl _ _).alloc (Nat.le_refl _) _) hb3
  clear hb3 B2
  have HB := Lib.hid B3
  have z1 : decide ((Y.length : Int) < (X.length : Int)) = false := decide_eq_false (by omega)
  have z2 : decide ((X.length : Int) < 1) = false := decide_eq_false (by omega)
  have z3 : decide ((10 : Int) < (Y.length : Int)) = false := decide_eq_false (by omega)
  clear B3
  go_wp2_with fail
  clear z1 z2 z3
  go_loopg [13, 14] 10 (fun gk nd mm wr => ∃ (j q : Nat), nd = .int .i64 j ∧ mm = .int .u64 q ∧ q < 18446744073709551616 ∧ j + leftB q = X.length ∧ leftB q ≤ gk ∧ wr = w3)
  case atStart => exact ⟨1, (a / 128).toNat, rfl, by rw [Int.toNat_of_nonneg (by omega)], by omega, by have := HL.out; rwa [show (a / 128).toNat = a.toNat / 128 by omega], by have := HL.out; rw [show (a / 128).toNat = a.toNat / 128 by omega]; omega, rfl⟩
  case round =>
    obtain ⟨j, q, rfl, rfl, hq, hj, hl, rfl⟩ := hrel
    by_cases h0 : 0 < q
    · have hm2 := leftB_more h0
      have h1 : (0 : Int) < (q : Int) := by omega
      go_wp2_with fail
      go_roundg (gk - 1)
      case rel => exact ⟨j + 1, q / 128, by go_num, by rw [show ((q / 128 : Nat) : Int) = (q : Int) / 128 by omega], by omega, by omega, by omega, rfl⟩
      case measure => omega
    · obtain rfl : q = 0 := by omega
      have hjX : Hid ((X.length : Int) = (j : Int)) := by unfold Hid; unfold leftB at hj; simp at hj; omega
      clear hj hl hq
      rcases hd0 with ⟨h1, h2⟩ | ⟨h1, h2⟩
      · have e1 : IntKind.u64.wrap (-(n + 1)) = d := by rw [← h2, IntKind.wrap_u64]; omega
        clear h2
        go_wp2_with fail
        refine (F3.out _ _ ?_ ?_).mono ?_
        · simp
        · simp
        rintro e w5 ⟨rfl, hb5⟩
        have HB5 := Lib.hid (below_step HB.out ((Below.refl _ _).alloc (Nat.le_refl _) _) hb5)
        clear hb5
        go_wp2_with fail
        refine (F4.out _ _ ?_ ?_).mono ?_
        · simp
        · simp
        rintro e w6 ⟨rfl, hb6⟩
        have HB6 := Lib.hid (below_step HB5.out ((Below.refl _ _).alloc (Nat.le_refl _) _) hb6)
        clear hb6
        have q1 := hjX.out
        have q2 := lUV.out
        go_wp2_with fail
        go_ret
        exact ⟨by simp, HB6.out⟩
      · obtain rfl : m = n := by rw [← hm, IntKind.wrap_u64]; omega
        subst h2
        clear hm
        go_wp2_with fail
        refine (F3.out _ _ ?_ ?_).mono ?_
        · simp
        · simp
        rintro e w5 ⟨rfl, hb5⟩
        have HB5 := Lib.hid (below_step HB.out ((Below.refl _ _).alloc (Nat.le_refl _) _) hb5)
        clear hb5
        go_wp2_with fail
        refine (F4.out _ _ ?_ ?_).mono ?_
        · simp
        · simp
        rintro e w6 ⟨rfl, hb6⟩
        have HB6 := Lib.hid (below_step HB5.out ((Below.refl _ _).alloc (Nat.le_refl _) _) hb6)
        clear hb6
        have q1 := hjX.out
        have q2 := lUV.out
        go_wp2_with fail
        go_ret
        exact ⟨by simp, HB6.out⟩

set_option maxHeartbeats 4000000 in
theorem octetShort_3 (w : World) (a : Int) (fa : (Lit.int .u64 a).wf = true) (b : Int) (fb : (Lit.int .u64 b).wf = true) (n : Int) (fn : (Lit.int .i64 n).wf = true) (hxy : a = b) :
    Calls Try.prog 5 #[.int .u64 a, .int .u64 b, .int .i64 n] w fun e w' => e = .returned (.bool true) ∧ Below w.heap.size w w' := by
  have wa := word_of_wf fa
  have wb := word_of_wf fb
  obtain ⟨n0, n1⟩ := int_of_wf fn
  clear fa fb fn
  subst hxy
  have AW := Lib.hid (fun w => octAwake w)
  obtain ⟨a0, a1⟩ := wa
  obtain ⟨b0, b1⟩ := wb
  have wx : Word a := ⟨a0, a1⟩
  have wy : Word a := ⟨a0, a1⟩
  -- the four texts
  obtain ⟨m, hm⟩ : ∃ m, IntKind.u64.wrap n = m := ⟨_, rfl⟩
  have wm : Word m := by rw [← hm, IntKind.wrap_u64]; exact ⟨by omega, by omega⟩
  obtain ⟨d, hd⟩ : ∃ d, (if n < 0 then -(n + 1) else n) = d := ⟨_, rfl⟩
  have hd0 : (n < 0 ∧ d = -(n + 1)) ∨ (0 ≤ n ∧ d = n) := by split at hd <;> omega
  have d0 : 0 ≤ d ∧ d ≤ 9223372036854775807 := by omega
  have wd : Word (2 * d) := ⟨by omega, by omega⟩
  have tu : thingB 2 m = numB (zz n).toNat := by
    rw [thingB2 (by decide)]
    have : IntKind.i64.wrap m = n := by rw [← hm, IntKind.wrap_u64, IntKind.wrap_i64]; omega
    rw [this]
  obtain ⟨X, hX⟩ : ∃ X, numB a.toNat = X := ⟨_, rfl⟩
  obtain ⟨Y, hY⟩ : ∃ X, numB a.toNat = X := ⟨_, rfl⟩
  obtain ⟨U, hU⟩ : ∃ X, numB (zz n).toNat = X := ⟨_, rfl⟩
  obtain ⟨V, hV⟩ : ∃ X, numB (2 * d).toNat = X := ⟨_, rfl⟩
  have lXY : X.length ≤ Y.length := by rw [← hX, ← hY]; exact numB_mono _ _ (by omega)
  have lX : 1 ≤ X.length := by rw [← hX]; exact List.length_pos_iff.2 (numB_ne _)
  have lY : Y.length ≤ 10 := by rw [← hY]; exact numB_ten (by omega)
  have lUV : Hid ((U.length : Int) = (V.length : Int)) := by
    unfold Hid
    rw [← hU, ← hV]
    congr 1
    unfold zz
    rcases hd0 with ⟨h1, h2⟩ | ⟨h1, h2⟩
    · rw [if_neg (by omega)]
      have e : (-2 * n - 1).toNat = (2 * d).toNat + 1 := by omega
      rw [e]
      exact numB_even _ (by omega)
    · rw [if_pos h1, h2]
  have sX := bs_size X
  have sY := bs_size Y
  have sU := bs_size U
  have sV := bs_size V
  have start := leftB_start a.toNat
  rw [hX] at start
  have F1 : Hid (∀ (W : World) (g : Nat), W.cell? ⟨g, 0, none⟩ = some (.int .u8 1) → W.cell? ⟨g, 1, none⟩ = some (.int .u64 a) → Calls Try.prog 35 #[.slice (some ⟨g, 0, none⟩) 1 1] W fun e w' => e = .returned (.tuple #[.string (bs X), .bool true]) ∧ Below W.heap.size W w') := by
    intro W g c0 c1; rw [← hX, ← thingB1 (k := 1) (n := a) (by decide)]; exact written_one g 1 a W (by decide) (by decide) wx c0 c1
  have F2 : Hid (∀ (W : World) (g : Nat), W.cell? ⟨g, 0, none⟩ = some (.int .u8 1) → W.cell? ⟨g, 1, none⟩ = some (.int .u64 a) → Calls Try.prog 35 #[.slice (some ⟨g, 0, none⟩) 1 1] W fun e w' => e = .returned (.tuple #[.string (bs Y), .bool true]) ∧ Below W.heap.size W w') := by
    intro W g c0 c1; rw [← hY, ← thingB1 (k := 1) (n := a) (by decide)]; exact written_one g 1 a W (by decide) (by decide) wy c0 c1
  have F3 : Hid (∀ (W : World) (g : Nat), W.cell? ⟨g, 0, none⟩ = some (.int .u8 2) → W.cell? ⟨g, 1, none⟩ = some (.int .u64 m) → Calls Try.prog 35 #[.slice (some ⟨g, 0, none⟩) 1 1] W fun e w' => e = .returned (.tuple #[.string (bs U), .bool true]) ∧ Below W.heap.size W w') := by
    intro W g c0 c1; rw [← hU, ← tu]; exact written_one g 2 m W (by decide) (by decide) wm c0 c1
  have F4 : Hid (∀ (W : World) (g : Nat), W.cell? ⟨g, 0, none⟩ = some (.int .u8 1) → W.cell? ⟨g, 1, none⟩ = some (.int .u64 (2 * d)) → Calls Try.prog 35 #[.slice (some ⟨g, 0, none⟩) 1 1] W fun e w' => e = .returned (.tuple #[.string (bs V), .bool true]) ∧ Below W.heap.size W w') := by
    intro W g c0 c1; rw [← hV, ← thingB1 (k := 1) (n := 2 * d) (by decide)]; exact written_one g 1 (2 * d) W (by decide) (by decide) wd c0 c1
  have HL := Lib.hid start
  have lXn : X.length ≤ 10 := by omega
  clear tu hX hY hU hV hd start wm wd wx wy
  go_enter Try.func5, Try.ntmps5
  go_wp2_with fail
  with_reducible refine (AW.out _).mono ?_
  rintro e w1 ⟨rfl, hb1⟩
  have B1 : Below w.heap.size w w1 := by first | with_reducible exact hb1 | exact Below.trans (by go_grown) (hb1.mono (by simp only [World.size_alloc]; omega))
  clear hb1
  go_wp2_with fail
  refine (F1.out _ _ ?_ ?_).mono ?_
  · simp
  · simp
  rintro e w2 ⟨rfl, hb2⟩
  have B2 := below_step B1 ((Below.refl _ _).alloc (Nat.le_refl _) _) hb2
  clear hb2 B1
  go_wp2_with fail
  refine (F2.out _ _ ?_ ?_).mono ?_
  · simp
  · simp
  rintro e w3 ⟨rfl, hb3⟩
  have B3 := below_step B2 ((Below.refl _ _).alloc (Nat.le_refl _) _) hb3
  clear hb3 B2
  have HB := Lib.hid B3
  have z1 : decide ((Y.length : Int) < (X.length : Int)) = false := decide_eq_false (by omega)
  have z2 : decide ((X.length : Int) < 1) = false := decide_eq_false (by omega)
  have z3 : decide ((10 : Int) < (Y.length : Int)) = false := decide_eq_false (by omega)
  clear B3
  go_wp2_with fail
  clear z1 z2 z3
  go_loopg [13, 14] 10 (fun gk nd mm wr => ∃ (j q : Nat), nd = .int .i64 j ∧ mm = .int .u64 q ∧ q < 18446744073709551616 ∧ j + leftB q = X.length ∧ leftB q ≤ gk ∧ wr = w3)
  case atStart => exact ⟨1, (a / 128).toNat, rfl, by rw [Int.toNat_of_nonneg (by omega)], by omega, by have := HL.out; rwa [show (a / 128).toNat = a.toNat / 128 by omega], by have := HL.out; rw [show (a / 128).toNat = a.toNat / 128 by omega]; omega, rfl⟩
  case round =>
    obtain ⟨j, q, rfl, rfl, hq, hj, hl, rfl⟩ := hrel
    by_cases h0 : 0 < q
    · have hm2 := leftB_more h0
      have h1 : (0 : Int) < (q : Int) := by omega
      go_wp2_with fail
      go_roundg (gk - 1)
      case rel => exact ⟨j + 1, q / 128, by go_num, by rw [show ((q / 128 : Nat) : Int) = (q : Int) / 128 by omega], by omega, by omega, by omega, rfl⟩
      case measure => omega
    · obtain rfl : q = 0 := by omega
      have hjX : Hid ((X.length : Int) = (j : Int)) := by unfold Hid; unfold leftB at hj; simp at hj; omega
      clear hj hl hq
      rcases hd0 with ⟨h1, h2⟩ | ⟨h1, h2⟩
      · have e1 : IntKind.u64.wrap (-(n + 1)) = d := by rw [← h2, IntKind.wrap_u64]; omega
        clear h2
        go_wp2_with fail
        refine (F3.out _ _ ?_ ?_).mono ?_
        · simp
        · simp
        rintro e w5 ⟨rfl, hb5⟩
        have HB5 := Lib.hid (below_step HB.out ((Below.refl _ _).alloc (Nat.le_refl _) _) hb5)
        clear hb5
        go_wp2_with fail
        refine (F4.out _ _ ?_ ?_).mono ?_
        · simp
        · simp
        rintro e w6 ⟨rfl, hb6⟩
        have HB6 := Lib.hid (below_step HB5.out ((Below.refl _ _).alloc (Nat.le_refl _) _) hb6)
        clear hb6
        have q1 := hjX.out
        have q2 := lUV.out
        go_wp2_with fail
        go_ret
        exact ⟨by simp, HB6.out⟩
      · obtain rfl : m = n := by rw [← hm, IntKind.wrap_u64]; omega
        subst h2
        clear hm
        go_wp2_with fail
        refine (F3.out _ _ ?_ ?_).mono ?_
        · simp
        · simp
        rintro e w5 ⟨rfl, hb5⟩
        have HB5 := Lib.hid (below_step HB.out ((Below.refl _ _).alloc (Nat.le_refl _) _) hb5)
        clear hb5
        go_wp2_with fail
        refine (F4.out _ _ ?_ ?_).mono ?_
        · simp
        · simp
        rintro e w6 ⟨rfl, hb6⟩
        have HB6 := Lib.hid (below_step HB5.out ((Below.refl _ _).alloc (Nat.le_refl _) _) hb6)
        clear hb6
        have q1 := hjX.out
        have q2 := lUV.out
        go_wp2_with fail
        go_ret
        exact ⟨by simp, HB6.out⟩

set_option maxHeartbeats 4000000 in
theorem octetShort_2 (w : World) (a : Int) (fa : (Lit.int .u64 a).wf = true) (b : Int) (fb : (Lit.int .u64 b).wf = true) (n : Int) (fn : (Lit.int .i64 n).wf = true) (hxy : b < a) :
    Calls Try.prog 5 #[.int .u64 a, .int .u64 b, .int .i64 n] w fun e w' => e = .returned (.bool true) ∧ Below w.heap.size w w' := by
  have wa := word_of_wf fa
  have wb := word_of_wf fb
  obtain ⟨n0, n1⟩ := int_of_wf fn
  clear fa fb fn
  have AW := Lib.hid (fun w => octAwake w)
  obtain ⟨a0, a1⟩ := wa
  obtain ⟨b0, b1⟩ := wb
  have wx : Word b := ⟨b0, b1⟩
  have wy : Word a := ⟨a0, a1⟩
  -- the four texts
  obtain ⟨m, hm⟩ : ∃ m, IntKind.u64.wrap n = m := ⟨_, rfl⟩
  have wm : Word m := by rw [← hm, IntKind.wrap_u64]; exact ⟨by omega, by omega⟩
  obtain ⟨d, hd⟩ : ∃ d, (if n < 0 then -(n + 1) else n) = d := ⟨_, rfl⟩
  have hd0 : (n < 0 ∧ d = -(n + 1)) ∨ (0 ≤ n ∧ d = n) := by split at hd <;> omega
  have d0 : 0 ≤ d ∧ d ≤ 9223372036854775807 := by omega
  have wd : Word (2 * d) := ⟨by omega, by omega⟩
  have tu : thingB 2 m = numB (zz n).toNat := by
    rw [thingB2 (by decide)]
    have : IntKind.i64.wrap m = n := by rw [← hm, IntKind.wrap_u64, IntKind.wrap_i64]; omega
    rw [this]
  obtain ⟨X, hX⟩ : ∃ X, numB b.toNat = X := ⟨_, rfl⟩
  obtain ⟨Y, hY⟩ : ∃ X, numB a.toNat = X := ⟨_, rfl⟩
  obtain ⟨U, hU⟩ : ∃ X, numB (zz n).toNat = X := ⟨_, rfl⟩
  obtain ⟨V, hV⟩ : ∃ X, numB (2 * d).toNat = X := ⟨_, rfl⟩
  have lXY : X.length ≤ Y.length := by rw [← hX, ← hY]; exact numB_mono _ _ (by omega)
  have lX : 1 ≤ X.length := by rw [← hX]; exact List.length_pos_iff.2 (numB_ne _)
  have lY : Y.length ≤ 10 := by rw [← hY]; exact numB_ten (by omega)
  have lUV : Hid ((U.length : Int) = (V.length : Int)) := by
    unfold Hid
    rw [← hU, ← hV]
    congr 1
    unfold zz
    rcases hd0 with ⟨h1, h2⟩ | ⟨h1, h2⟩
    · rw [if_neg (by omega)]
      have e : (-2 * n - 1).toNat = (2 * d).toNat + 1 := by omega
      rw [e]
      exact numB_even _ (by omega)
    · rw [if_pos h1, h2]
  have sX := bs_size X
  have sY := bs_size Y
  have sU := bs_size U
  have sV := bs_size V
  have start := leftB_start b.toNat
  rw [hX] at start
  have F1 : Hid (∀ (W : World) (g : Nat), W.cell? ⟨g, 0, none⟩ = some (.int .u8 1) → W.cell? ⟨g, 1, none⟩ = some (.int .u64 b) → Calls Try.prog 35 #[.slice (some ⟨g, 0, none⟩) 1 1] W fun e w' => e = .returned (.tuple #[.string (bs X), .bool true]) ∧ Below W.heap.size W w') := by
    intro W g c0 c1; rw [← hX, ← thingB1 (k := 1) (n := b) (by decide)]; exact written_one g 1 b W (by decide) (by decide) wx c0 c1
  have F2 : Hid (∀ (W : World) (g : Nat), W.cell? ⟨g, 0, none⟩ = some (.int .u8 1) → W.cell? ⟨g, 1, none⟩ = some (.int .u64 a) → Calls Try.prog 35 #[.slice (some ⟨g, 0, none⟩) 1 1] W fun e w' => e = .returned (.tuple #[.string (bs Y), .bool true]) ∧ Below W.heap.size W w') := by
    intro W g c0 c1; rw [← hY, ← thingB1 (k := 1) (n := a) (by decide)]; exact written_one g 1 a W (by decide) (by decide) wy c0 c1
  have F3 : Hid (∀ (W : World) (g : Nat), W.cell? ⟨g, 0, none⟩ = some (.int .u8 2) → W.cell? ⟨g, 1, none⟩ = some (.int .u64 m) → Calls Try.prog 35 #[.slice (some ⟨g, 0, none⟩) 1 1] W fun e w' => e = .returned (.tuple #[.string (bs U), .bool true]) ∧ Below W.heap.size W w') := by
    intro W g c0 c1; rw [← hU, ← tu]; exact written_one g 2 m W (by decide) (by decide) wm c0 c1
  have F4 : Hid (∀ (W : World) (g : Nat), W.cell? ⟨g, 0, none⟩ = some (.int .u8 1) → W.cell? ⟨g, 1, none⟩ = some (.int .u64 (2 * d)) → Calls Try.prog 35 #[.slice (some ⟨g, 0, none⟩) 1 1] W fun e w' => e = .returned (.tuple #[.string (bs V), .bool true]) ∧ Below W.heap.size W w') := by
    intro W g c0 c1; rw [← hV, ← thingB1 (k := 1) (n := 2 * d) (by decide)]; exact written_one g 1 (2 * d) W (by decide) (by decide) wd c0 c1
  have HL := Lib.hid start
  have lXn : X.length ≤ 10 := by omega
  clear tu hX hY hU hV hd start wm wd wx wy
  go_enter Try.func5, Try.ntmps5
  go_wp2_with fail
  with_reducible refine (AW.out _).mono ?_
  rintro e w1 ⟨rfl, hb1⟩
  have B1 : Below w.heap.size w w1 := by first | with_reducible exact hb1 | exact Below.trans (by go_grown) (hb1.mono (by simp only [World.size_alloc]; omega))
  clear hb1
  go_wp2_with fail
  refine (F1.out _ _ ?_ ?_).mono ?_
  · simp
  · simp
  rintro e w2 ⟨rfl, hb2⟩
  have B2 := below_step B1 ((Below.refl _ _).alloc (Nat.le_refl _) _) hb2
  clear hb2 B1
  go_wp2_with fail
  refine (F2.out _ _ ?_ ?_).mono ?_
  · simp
  · simp
  rintro e w3 ⟨rfl, hb3⟩
  have B3 := below_step B2 ((Below.refl _ _).alloc (Nat.le_refl _) _) hb3
  clear hb3 B2
  have HB := Lib.hid B3
  have z1 : decide ((Y.length : Int) < (X.length : Int)) = false := decide_eq_false (by omega)
  have z2 : decide ((X.length : Int) < 1) = false := decide_eq_false (by omega)
  have z3 : decide ((10 : Int) < (Y.length : Int)) = false := decide_eq_false (by omega)
  clear B3
  go_wp2_with fail
  clear z1 z2 z3
  go_loopg [13, 14] 10 (fun gk nd mm wr => ∃ (j q : Nat), nd = .int .i64 j ∧ mm = .int .u64 q ∧ q < 18446744073709551616 ∧ j + leftB q = X.length ∧ leftB q ≤ gk ∧ wr = w3)
  case atStart => exact ⟨1, (b / 128).toNat, rfl, by rw [Int.toNat_of_nonneg (by omega)], by omega, by have := HL.out; rwa [show (b / 128).toNat = b.toNat / 128 by omega], by have := HL.out; rw [show (b / 128).toNat = b.toNat / 128 by omega]; omega, rfl⟩
  case round =>
    obtain ⟨j, q, rfl, rfl, hq, hj, hl, rfl⟩ := hrel
    by_cases h0 : 0 < q
    · have hm2 := leftB_more h0
      have h1 : (0 : Int) < (q : Int) := by omega
      go_wp2_with fail
      go_roundg (gk - 1)
      case rel => exact ⟨j + 1, q / 128, by go_num, by rw [show ((q / 128 : Nat) : Int) = (q : Int) / 128 by omega], by omega, by omega, by omega, rfl⟩
      case measure => omega
    · obtain rfl : q = 0 := by omega
      have hjX : Hid ((X.length : Int) = (j : Int)) := by unfold Hid; unfold leftB at hj; simp at hj; omega
      clear hj hl hq
      rcases hd0 with ⟨h1, h2⟩ | ⟨h1, h2⟩
      · have e1 : IntKind.u64.wrap (-(n + 1)) = d := by rw [← h2, IntKind.wrap_u64]; omega
        clear h2
        go_wp2_with fail
        refine (F3.out _ _ ?_ ?_).mono ?_
        · simp
        · simp
        rintro e w5 ⟨rfl, hb5⟩
        have HB5 := Lib.hid (below_step HB.out ((Below.refl _ _).alloc (Nat.le_refl _) _) hb5)
        clear hb5
        go_wp2_with fail
        refine (F4.out _ _ ?_ ?_).mono ?_
        · simp
        · simp
        rintro e w6 ⟨rfl, hb6⟩
        have HB6 := Lib.hid (below_step HB5.out ((Below.refl _ _).alloc (Nat.le_refl _) _) hb6)
        clear hb6
        have q1 := hjX.out
        have q2 := lUV.out
        go_wp2_with fail
        go_ret
        exact ⟨by simp, HB6.out⟩
      · obtain rfl : m = n := by rw [← hm, IntKind.wrap_u64]; omega
        subst h2
        clear hm
        go_wp2_with fail
        refine (F3.out _ _ ?_ ?_).mono ?_
        · simp
        · simp
        rintro e w5 ⟨rfl, hb5⟩
        have HB5 := Lib.hid (below_step HB.out ((Below.refl _ _).alloc (Nat.le_refl _) _) hb5)
        clear hb5
        go_wp2_with fail
        refine (F4.out _ _ ?_ ?_).mono ?_
        · simp
        · simp
        rintro e w6 ⟨rfl, hb6⟩
        have HB6 := Lib.hid (below_step HB5.out ((Below.refl _ _).alloc (Nat.le_refl _) _) hb6)
        clear hb6
        have q1 := hjX.out
        have q2 := lUV.out
        go_wp2_with fail
        go_ret
        exact ⟨by simp, HB6.out⟩


theorem octetShort_walk (w : World) (a : Int) (fa : (Lit.int .u64 a).wf = true) (b : Int) (fb : (Lit.int .u64 b).wf = true) (n : Int) (fn : (Lit.int .i64 n).wf = true) :
    Calls Try.prog 5 #[.int .u64 a, .int .u64 b, .int .i64 n] w fun e w' => e = .returned (.bool true) ∧ Below w.heap.size w w' := by
  rcases Int.lt_trichotomy a b with h | h | h
  · exact octetShort_1 w a fa b fb n fn h
  · exact octetShort_3 w a fa b fb n fn h
  · exact octetShort_2 w a fa b fb n fn h

end Go.Proofs.Ytdlpnhplldnlbaa
