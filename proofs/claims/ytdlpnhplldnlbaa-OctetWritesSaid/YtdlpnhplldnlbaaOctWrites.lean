/-
  The walk of the law OctetWrites: whatever is written has the bytes that the chapter says, or is too long.
-/
import Derived.Test.YtdlpnhplldnlbaaProg
import Derived.Test.YtdlpnhplldnlbaaOctF
namespace Go.Proofs.Ytdlpnhplldnlbaa
set_option linter.unusedVariables false
set_option linter.unusedSimpArgs false
set_option maxRecDepth 100000
open Go.RowKit

/-- The bytes of the first m things. -/
def upto (K N : Nat → Int) : Nat → List Nat
  | 0 => []
  | m + 1 => upto K N m ++ thingB (K m) (N m)
/-- Of all n things, so many times over. -/
def turnsB (K N : Nat → Int) (n : Nat) : Nat → List Nat
  | 0 => []
  | t + 1 => turnsB K N n t ++ upto K N n
theorem upto_len (K N : Nat → Int) (n : Nat) (h : ∀ i, i < n → Word (N i)) : ∀ m, m ≤ n → (upto K N m).length ≤ 10 * m := by
  intro m
  induction m with
  | zero => intro _; simp [upto]
  | succ m ih =>
    intro hm
    have a := ih (by omega)
    have b := thingB_len (K m) (N m) (h m (by omega))
    rw [upto, List.length_append]
    omega
theorem turnsB_len (K N : Nat → Int) (n : Nat) (h : ∀ i, i < n → Word (N i)) : ∀ t, (turnsB K N n t).length ≤ 10 * n * t := by
  intro t
  induction t with
  | zero => simp [turnsB]
  | succ t ih =>
    have b := upto_len K N n h n (Nat.le_refl _)
    rw [turnsB, List.length_append, Nat.mul_succ]
    omega

theorem thingB0 {k n : Int} (h : k % 4 = 0) : thingB k n = [(n % 256).toNat] := by unfold thingB; rw [if_pos h]
theorem thingB1 {k n : Int} (h : k % 4 = 1) : thingB k n = numB n.toNat := by unfold thingB; rw [if_neg (by omega), if_pos h]
theorem thingB2 {k n : Int} (h : k % 4 = 2) : thingB k n = numB (zz (IntKind.i64.wrap n)).toNat := by unfold thingB; rw [if_neg (by omega), if_neg (by omega), if_pos h]
theorem thingB3 {k n : Int} (h : k % 4 = 3) : thingB k n = [flagB (decide (n % 2 = 1))] := by unfold thingB; rw [if_neg (by omega), if_neg (by omega), if_neg (by omega)]
theorem penByteNil (x : Int) (w : World) : Calls Try.prog 45 #[.pointer none, .int .u8 x] w fun e w' => e = .returned (.tuple #[]) ∧ w = w' := by
  go_enter Try.func45, Try.ntmps45
  go_wp2_with fail
  go_end0
  exact ⟨rfl, rfl⟩
theorem penNumNil (w : World) : Calls Try.prog 18 #[.pointer none, .int .u64 300] w fun e w' => e = .returned (.tuple #[]) ∧ Below w.heap.size w w' := by
  have PB := Lib.hid penByteNil
  go_enter Try.func18, Try.ntmps18
  go_wp2_with fail
  refine wp_loop_rounds 2 ?_
  rw [rounds_succ]
  go_wp2_with fail
  with_reducible refine (PB.out _ _).mono ?_
  rintro e w1 ⟨rfl, rfl⟩
  go_wp2_with fail
  rw [rounds_succ]
  go_wp2_with fail
  with_reducible refine (PB.out _ _).mono ?_
  rintro e w1 ⟨rfl, rfl⟩
  go_wp2_with fail
  go_end0
  exact ⟨rfl, Below.refl _ _⟩

set_option maxHeartbeats 4000000 in
theorem octetWrites_at (A : Option Addr) (n c : Nat) (K N : Nat → Int) (tm : Int) (w : World) (hm : n ≤ maxLen) (hA : 0 < n → ∃ b off, A = some ⟨b, off, none⟩ ∧ b < w.heap.size)
    (hK : ∀ i, i < n → 0 ≤ K i ∧ K i ≤ 255) (hN : ∀ i, i < n → Word (N i)) (t0 : 0 ≤ tm) (t1 : tm ≤ 255)
    (hC0 : ∀ b off, A = some ⟨b, off, none⟩ → ∀ i, i < n → w.cell? ⟨b, off + (i * 2 + 0), none⟩ = some (.int .u8 (K i))) (hC1 : ∀ b off, A = some ⟨b, off, none⟩ → ∀ i, i < n → w.cell? ⟨b, off + (i * 2 + 1), none⟩ = some (.int .u64 (N i))) :
    Calls Try.prog 3 #[.slice A n c, .int .u8 tm] w fun e w' => e = .returned (.bool true) ∧ Below w.heap.size w w' := by
  unfold maxLen at hm
  by_cases hbig : 800 < n
  · have hb3 : decide ((800 : Int) < (n : Int)) = true := decide_eq_true (by omega)
    clear hA hK hN hC0 hC1
    go_enter Try.func3, Try.ntmps3
    go_wp2_with fail
    go_ret
    exact ⟨rfl, by go_grown⟩
  · have hbig2 : n ≤ 800 := by omega
    have hb3 : decide ((800 : Int) < (n : Int)) = false := decide_eq_false (by omega)
    have HK := Lib.hid hK
    have HN := Lib.hid hN
    have HC0 := Lib.hid hC0
    have HC1 := Lib.hid hC1
    have HA := Lib.hid hA
    clear hK hN hC0 hC1 hA
    go_enter Try.func3, Try.ntmps3
    go_wp2_with fail
    clear hb3
    obtain ⟨g, hg⟩ : ∃ g, w.heap.size = g := ⟨_, rfl⟩
    have HG := Lib.hid hg
    have P1 : Hid (PenAt (w.alloc (.cells #[.slice none 0 0] 28)) g g none []) := ⟨.slice none 0 0, by rw [← hg]; exact Blk.new _ _ _, World.ownsRow_nil _ _ _ _, rfl, fun x hx => by cases hx⟩
    have P0 := Lib.hid (PenTo.refl P1.out)
    have B0 : Below w.heap.size w (w.alloc (.cells #[.slice none 0 0] 28)) := by go_grown
    have hsz : (w.alloc (.cells #[.slice none 0 0] 28)).heap.size = g + 1 := by simp [hg]
    rw [hg]
    obtain ⟨W0, hW0⟩ : ∃ W0, (w.alloc (.cells #[.slice none 0 0] 28)) = W0 := ⟨_, rfl⟩
    rw [hW0] at P0 P1 B0 hsz
    rw [hW0]
    have HSZ := Lib.hid hsz
    have HB0 := Lib.hid B0
    clear hg hW0 hsz B0
    obtain ⟨q, hq⟩ : ∃ q : Nat, tm % 10 = q := ⟨(tm % 10).toNat, by omega⟩
    have hq9 : q ≤ 9 := by omega
    have hq1 : tm % 10 ≤ (q : Int) := by omega
    have hq2 : (q : Int) ≤ tm % 10 := by omega
    clear hq
    go_loopg [6, 7] (q + 1) (fun gk s tn wr => ∃ t : Nat, t + gk = q + 1 ∧ tn = .int .i64 t ∧ s = .string (bs (turnsB K N n t)) ∧ PenTo g g none (turnsB K N n t) W0 wr)
    case atStart => exact ⟨0, by omega, rfl, rfl, P0.out⟩
    case round =>
      obtain ⟨t, htk, rfl, rfl, r1, hP, hF, hR⟩ := hrel
      obtain ⟨go, rfl⟩ : ∃ x : Nat, x = gk := ⟨_, rfl⟩
      obtain ⟨wo, rfl⟩ : ∃ x : World, x = wr := ⟨_, rfl⟩
      have hge : w.heap.size ≤ g := by have := HG.out; omega
      have hW0s : g + 1 ≤ W0.heap.size := by have := HSZ.out; omega
      have hlen := turnsB_len K N n HN.out t
      have Hp := Lib.hid hP
      have Hf := Lib.hid hF
      have Hr := Lib.hid hR
      have P00 : Hid (PenAt W0 g g none []) := P1
      clear hP hF hR
      by_cases htq : (t : Int) ≤ tm % 10
      · have hl1 : 10 * n * t ≤ 72000 := by
          have a1 : 10 * n * t ≤ 10 * n * 9 := Nat.mul_le_mul_left _ (by omega)
          omega
        go_wp2_with fail
        go_loopg [6, 8] n (fun gk s ix wr => ∃ i : Nat, i + gk = n ∧ ix = .int .i64 i ∧ s = .string (bs (turnsB K N n t ++ upto K N i)) ∧ PenTo g g none (turnsB K N n t ++ upto K N i) W0 wr)
        case atStart => exact ⟨0, by omega, rfl, by rw [upto, List.append_nil], by rw [upto, List.append_nil]; exact ⟨r1, Hp.out, Hf.out, Hr.out⟩⟩
        case round =>
          obtain ⟨i, hi, rfl, rfl, r2, hP2, hF2, hR2⟩ := hrel
          have hlu := upto_len K N n HN.out i (by omega)
          clear Hp Hf Hr
          have hws := hF2.size
          have Hp := Lib.hid hP2
          have Hf := Lib.hid hF2
          have Hr := Lib.hid hR2
          clear hP2 hF2 hR2
          by_cases hlt : i < n
          · obtain ⟨bA, off, rfl, hbA⟩ := HA.out (by omega)
            have ck0 := HC0.out _ _ rfl i hlt
            have ck1 := HC1.out _ _ rfl i hlt
            have hk := HK.out i hlt
            have hx := HN.out i hlt
            have B2 : Below w.heap.size w wr := (show PenTo g g none (turnsB K N n t ++ upto K N i) W0 wr from ⟨r2, Hp.out, Hf.out, Hr.out⟩).old (l0 := []) HB0.out P00.out (by omega) (by omega)
            have cw0 : wr.cell? ⟨bA, off + i * 2, none⟩ = some (.int .u8 (K i)) := (B2.cell (p := ⟨bA, off + i * 2, none⟩) hbA).trans ck0
            have cw1 : wr.cell? ⟨bA, off + i * 2 + 1, none⟩ = some (.int .u64 (N i)) := by rw [Nat.add_assoc]; exact (B2.cell (p := ⟨bA, off + (i * 2 + 1), none⟩) hbA).trans ck1
            obtain ⟨k, hkk⟩ : ∃ x, K i = x := ⟨_, rfl⟩
            obtain ⟨x, hxx⟩ : ∃ x, N i = x := ⟨_, rfl⟩
            have HKx := Lib.hid (And.intro hkk hxx)
            rw [hkk] at hk cw0 ck0
            rw [hxx] at hx cw1 ck1
            have ck0 : w.cell? ⟨bA, off + i * 2, none⟩ = some (.int .u8 k) := ck0
            obtain ⟨k0, k1⟩ := hk
            obtain ⟨x0, x1⟩ := hx
            have hx : Word x := ⟨x0, x1⟩
            have WR := Lib.hid (fun r l w h hl hB => write_any g g k x r l w h k0 k1 hx hl hB)
            clear hkk hxx HC0 HC1 HA B2
            rcases (show k % 4 = 0 ∨ k % 4 = 1 ∨ k % 4 = 2 ∨ k % 4 = 3 by omega) with hk4 | hk4 | hk4 | hk4
            · have e := thingB0 (k := k) (n := x) hk4
              have E := Lib.hid e
              clear e
              have cx : IntKind.u8.wrap x = x % 256 := by rw [IntKind.wrap_u8]
              have cv := conv_one (x % 256) (by omega) (by omega)
              have ad := fun W => add_bs (turnsB K N n t ++ upto K N i) [(x % 256).toNat] (by rw [List.length_append]; have := E.out ▸ thingB_len k x hx; omega) W
              go_wp2_with fail
              with_reducible refine (WR.out r2 _ _ Hp.out (by rw [List.length_append]; omega) (by omega)).mono ?_
              rintro e w3 ⟨rfl, hp3⟩
              have HP3 : Hid (PenTo g g none (turnsB K N n t ++ upto K N i ++ thingB k x) W0 w3) := hp3.next Hf.out Hr.out
              have B3 : Below w.heap.size w w3 := HP3.out.old (l0 := []) HB0.out P00.out (by omega) (by omega)
              have d0 : w3.cell? ⟨bA, off + i * 2, none⟩ = some (.int .u8 k) := (B3.cell (p := ⟨bA, off + i * 2, none⟩) hbA).trans ck0
              have d1 : w3.cell? ⟨bA, off + i * 2 + 1, none⟩ = some (.int .u64 x) := by rw [Nat.add_assoc]; exact (B3.cell (p := ⟨bA, off + (i * 2 + 1), none⟩) hbA).trans ck1
              have hb3 : bA < w3.heap.size := Nat.lt_of_lt_of_le hbA B3.size
              clear hp3 cw0 cw1
              go_wp2_with fail
              go_roundg (gk - 1)
              case rel => exact ⟨i + 1, by omega, by go_num, by rw [upto, HKx.out.1, HKx.out.2, E.out, ← List.append_assoc], by rw [upto, HKx.out.1, HKx.out.2, ← List.append_assoc]; exact HP3.out.below ((Below.refl _ _).alloc (Nat.le_refl _) _)⟩
              case measure => omega
            · have e := thingB1 (k := k) (n := x) hk4
              have E := Lib.hid e
              clear e
              have ad := fun W => add_bs (turnsB K N n t ++ upto K N i) (numB x.toNat) (by rw [List.length_append]; have := E.out ▸ thingB_len k x hx; omega) W
              go_wp2_with fail
              with_reducible refine (WR.out r2 _ _ Hp.out (by rw [List.length_append]; omega) (by omega)).mono ?_
              rintro e w3 ⟨rfl, hp3⟩
              have HP3 : Hid (PenTo g g none (turnsB K N n t ++ upto K N i ++ thingB k x) W0 w3) := hp3.next Hf.out Hr.out
              have B3 : Below w.heap.size w w3 := HP3.out.old (l0 := []) HB0.out P00.out (by omega) (by omega)
              have d0 : w3.cell? ⟨bA, off + i * 2, none⟩ = some (.int .u8 k) := (B3.cell (p := ⟨bA, off + i * 2, none⟩) hbA).trans ck0
              have d1 : w3.cell? ⟨bA, off + i * 2 + 1, none⟩ = some (.int .u64 x) := by rw [Nat.add_assoc]; exact (B3.cell (p := ⟨bA, off + (i * 2 + 1), none⟩) hbA).trans ck1
              have hb3 : bA < w3.heap.size := Nat.lt_of_lt_of_le hbA B3.size
              clear hp3 cw0 cw1
              go_wp2_with fail
              with_reducible refine (refNum_any x _ hx).mono ?_
              rintro e w4 ⟨rfl, hb4⟩
              have HP4 := Lib.hid (HP3.out.below hb4)
              clear hb4
              go_wp2_with fail
              go_roundg (gk - 1)
              case rel => exact ⟨i + 1, by omega, by go_num, by rw [upto, HKx.out.1, HKx.out.2, E.out, ← List.append_assoc], by rw [upto, HKx.out.1, HKx.out.2, ← List.append_assoc]; exact HP4.out⟩
              case measure => omega
            · have e := thingB2 (k := k) (n := x) hk4
              have E := Lib.hid e
              clear e
              obtain ⟨m, hmm⟩ : ∃ m, IntKind.i64.wrap x = m := ⟨_, rfl⟩
              obtain ⟨i0, i1⟩ := i64_range x
              rw [hmm] at E i0 i1
              have ad := fun W => add_bs (turnsB K N n t ++ upto K N i) (numB (zz m).toNat) (by rw [List.length_append]; have := E.out ▸ thingB_len k x hx; omega) W
              go_wp2_with fail
              with_reducible refine (WR.out r2 _ _ Hp.out (by rw [List.length_append]; omega) (by omega)).mono ?_
              rintro e w3 ⟨rfl, hp3⟩
              have HP3 : Hid (PenTo g g none (turnsB K N n t ++ upto K N i ++ thingB k x) W0 w3) := hp3.next Hf.out Hr.out
              have B3 : Below w.heap.size w w3 := HP3.out.old (l0 := []) HB0.out P00.out (by omega) (by omega)
              have d0 : w3.cell? ⟨bA, off + i * 2, none⟩ = some (.int .u8 k) := (B3.cell (p := ⟨bA, off + i * 2, none⟩) hbA).trans ck0
              have d1 : w3.cell? ⟨bA, off + i * 2 + 1, none⟩ = some (.int .u64 x) := by rw [Nat.add_assoc]; exact (B3.cell (p := ⟨bA, off + (i * 2 + 1), none⟩) hbA).trans ck1
              have hb3 : bA < w3.heap.size := Nat.lt_of_lt_of_le hbA B3.size
              clear hp3 cw0 cw1
              go_wp2_with fail
              with_reducible refine (refInt_any m _ i0 i1).mono ?_
              rintro e w4 ⟨rfl, hb4⟩
              have HP4 := Lib.hid (HP3.out.below hb4)
              clear hb4
              go_wp2_with fail
              go_roundg (gk - 1)
              case rel => exact ⟨i + 1, by omega, by go_num, by rw [upto, HKx.out.1, HKx.out.2, E.out, ← List.append_assoc], by rw [upto, HKx.out.1, HKx.out.2, ← List.append_assoc]; exact HP4.out⟩
              case measure => omega
            · have e := thingB3 (k := k) (n := x) hk4
              have E := Lib.hid e
              clear e
              obtain ⟨bb, hbb⟩ : ∃ b, (x % 2 == 1) = b := ⟨_, rfl⟩
              have hbb2 : decide (x % 2 = 1) = bb := by rw [← hbb]; rfl
              rw [hbb2] at E
              clear hbb2
              have ad := fun W => add_bs (turnsB K N n t ++ upto K N i) [flagB bb] (by rw [List.length_append]; have := E.out ▸ thingB_len k x hx; omega) W
              go_wp2_with fail
              with_reducible refine (WR.out r2 _ _ Hp.out (by rw [List.length_append]; omega) (by omega)).mono ?_
              rintro e w3 ⟨rfl, hp3⟩
              have HP3 : Hid (PenTo g g none (turnsB K N n t ++ upto K N i ++ thingB k x) W0 w3) := hp3.next Hf.out Hr.out
              have B3 : Below w.heap.size w w3 := HP3.out.old (l0 := []) HB0.out P00.out (by omega) (by omega)
              have d0 : w3.cell? ⟨bA, off + i * 2, none⟩ = some (.int .u8 k) := (B3.cell (p := ⟨bA, off + i * 2, none⟩) hbA).trans ck0
              have d1 : w3.cell? ⟨bA, off + i * 2 + 1, none⟩ = some (.int .u64 x) := by rw [Nat.add_assoc]; exact (B3.cell (p := ⟨bA, off + (i * 2 + 1), none⟩) hbA).trans ck1
              have hb3 : bA < w3.heap.size := Nat.lt_of_lt_of_le hbA B3.size
              clear hp3 cw0 cw1
              go_wp2_with fail
              with_reducible refine (refFlag_any bb _).mono ?_
              rintro e w4 ⟨rfl, rfl⟩
              go_wp2_with fail
              go_roundg (gk - 1)
              case rel => exact ⟨i + 1, by omega, by go_num, by rw [upto, HKx.out.1, HKx.out.2, E.out, ← List.append_assoc], by rw [upto, HKx.out.1, HKx.out.2, ← List.append_assoc]; exact HP3.out⟩
              case measure => omega
          · have hin : i = n := by omega
            subst hin
            clear HK HC0 HC1 HA
            obtain ⟨L, hL⟩ : ∃ L, turnsB K N i t ++ upto K N i = L := ⟨_, rfl⟩
            have HL : Hid (turnsB K N i (t + 1) = L) := hL
            rw [hL] at Hp
            rw [hL]
            have hLs := bs_size L
            by_cases hlong : 4096 < L.length
            · have z1 : decide ((4096 : Int) < (L.length : Int)) = true := decide_eq_true (by omega)
              clear hL
              go_wp2_with fail
              with_reducible refine (penLong g g r2 L _ Hp.out hlong).mono ?_
              rintro e w4 ⟨rfl, rfl⟩
              go_wp2_with fail
              go_roundg (go - 1)
              case rel => exact ⟨t + 1, by omega, by go_num, by rw [HL.out], by rw [HL.out]; exact ⟨r2, Hp.out, Hf.out, Hr.out⟩⟩
              case measure => omega
            · have z1 : decide ((4096 : Int) < (L.length : Int)) = false := decide_eq_false (by omega)
              clear hL
              go_wp2_with fail
              with_reducible refine (penDone g g r2 L _ Hp.out (by omega)).mono ?_
              rintro e w4 ⟨rfl, rfl⟩
              go_wp2_with fail
              go_roundg (go - 1)
              case rel => exact ⟨t + 1, by omega, by go_num, by rw [HL.out], by rw [HL.out]; exact ⟨r2, Hp.out, Hf.out, Hr.out⟩⟩
              case measure => omega
      · clear HK HC0 HC1 HA
        have B2 : Below w.heap.size w wo := (show PenTo g g none (turnsB K N n t) W0 wo from ⟨r1, Hp.out, Hf.out, Hr.out⟩).old (l0 := []) HB0.out P00.out (by omega) (by omega)
        have HB2 := Lib.hid B2
        clear B2
        go_wp2_with fail
        with_reducible refine (penNumNil _).mono ?_
        rintro e w2 ⟨rfl, hb2⟩
        have HB3 := Lib.hid (below_next HB2.out hb2)
        clear hb2
        go_wp2_with fail
        with_reducible refine (penNil _).mono ?_
        rintro e w3 ⟨rfl, rfl⟩
        go_wp2_with fail
        go_ret
        exact ⟨rfl, HB3.out⟩

theorem octetWrites_walk (w : World) (A : Option Addr) (n c : Nat) (K : Nat → Int) (fK : ∀ i, i < n → (Lit.int .u8 (K i)).wf = true) (F : Nat → Int) (fF : ∀ i, i < n → (Lit.int .u64 (F i)).wf = true)
    (hl : n ≤ c) (hm : c ≤ maxLen) (hA : 0 < n → ∃ b off, A = some ⟨b, off, none⟩ ∧ b < w.heap.size) (hC0 : ∀ b off, A = some ⟨b, off, none⟩ → ∀ i, i < n → w.cell? ⟨b, off + (i * 2 + 0), none⟩ = some (.int .u8 (K i)))
    (hC1 : ∀ b off, A = some ⟨b, off, none⟩ → ∀ i, i < n → w.cell? ⟨b, off + (i * 2 + 1), none⟩ = some (.int .u64 (F i))) (tm : Int) (ft : (Lit.int .u8 tm).wf = true) :
    Calls Try.prog 3 #[.slice A n c, .int .u8 tm] w fun e w' => e = .returned (.bool true) ∧ Below w.heap.size w w' :=
  octetWrites_at A n c K F tm w (Nat.le_trans hl hm) hA (fun i hi => byte_of_wf (fK i hi)) (fun i hi => word_of_wf (fF i hi)) (byte_of_wf ft).1 (byte_of_wf ft).2 hC0 hC1

end Go.Proofs.Ytdlpnhplldnlbaa
