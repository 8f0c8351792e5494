/-
  math/bits.Div64 divides.
-/
import Derived.Test.YtjhffbhjiflfeaaGreatProg
import Derived.Test.YtjhffbhjiflfeaaGreatLib2
import Derived.Test.YtjhffbhjiflfeaaGreatBits
import Derived.Test.YtjhffbhjiflfeaaGreatMul
import Derived.Test.YtjhffbhjiflfeaaGreatDivPlain
import Derived.Deep.CutBlock
namespace Go.Proofs.YtjhffbhjiflfeaaGreat
set_option linter.unusedVariables false
set_option linter.unusedSimpArgs false
open Go.RowKit

theorem div64_small (l y : Int) (w : World) (hl : Word l) (hy : Word y) (hy0 : 0 < y) :
    Calls Tryz.prog 127 #[.int .u64 0, .int .u64 l, .int .u64 y] w fun e w' => e = .returned (.tuple #[.int .u64 (l / y), .int .u64 (l % y)]) ∧ Below w.heap.size w w' := by
  obtain ⟨l0, l1⟩ := hl; obtain ⟨y0, y1⟩ := hy
  have e1 : (y == 0) = false := beq_eq_false_iff_ne.2 (by omega)
  go_enter Tryz.func127, Tryz.ntmps127
  go_wp2_with fail
  go_quiet (fail)
  go_wp2_with fail
  go_ret2
  exact ⟨rfl, below_of_drewN _ _ _⟩

theorem pow2_pos' (k : Nat) : (1 : Int) ≤ 2 ^ k := by
  induction k with
  | zero => decide
  | succ k ih => rw [Int.pow_succ]; omega

/-- What comes of the words of a number that is moved up. -/
theorem shifted {h l y : Int} {s : Nat} (h0 : 0 ≤ h) (l0 : 0 ≤ l) (l1 : l < 18446744073709551616) (hy : h < y) (hs : s < 64) (hY : y * 2 ^ s < 18446744073709551616) :
    (0 ≤ h * 2 ^ s) ∧
    0 ≤ bits BinOp.or IntKind.u64 (IntKind.u64.wrap (h * 2 ^ s)) (l / 2 ^ (64 - s)) ∧
    bits BinOp.or IntKind.u64 (IntKind.u64.wrap (h * 2 ^ s)) (l / 2 ^ (64 - s)) < y * 2 ^ s ∧
    (h * 18446744073709551616 + l) * 2 ^ s = bits BinOp.or IntKind.u64 (IntKind.u64.wrap (h * 2 ^ s)) (l / 2 ^ (64 - s)) * 18446744073709551616 + IntKind.u64.wrap (l * 2 ^ s) ∧
    (0 ≤ IntKind.u64.wrap (l * 2 ^ s) ∧ IntKind.u64.wrap (l * 2 ^ s) < 18446744073709551616) := by
  have hP := pow2_pos' s
  have hR := pow2_pos' (64 - s)
  have hPR : (2 : Int) ^ (64 - s) * 2 ^ s = 18446744073709551616 := by
    rw [← Int.pow_add, show 64 - s + s = 64 by omega]; decide
  have hhP : 0 ≤ h * 2 ^ s := Int.mul_nonneg h0 (by omega)
  have hhP2 : (h + 1) * 2 ^ s ≤ y * 2 ^ s := Int.mul_le_mul_of_nonneg_right (by omega) (by omega)
  rw [Int.add_mul, Int.one_mul] at hhP2
  have lt0 : 0 ≤ l / 2 ^ (64 - s) := Int.ediv_nonneg l0 (by omega)
  have lt1 : l / 2 ^ (64 - s) < 2 ^ s := by
    refine Int.ediv_lt_of_lt_mul (by omega) ?_
    rw [Int.mul_comm, hPR]; exact l1
  have hw : IntKind.u64.wrap (h * 2 ^ s) = h * 2 ^ s := IntWalk.u64_in _ (by omega)
  have hor : bits BinOp.or IntKind.u64 (h * 2 ^ s) (l / 2 ^ (64 - s)) = h * 2 ^ s + l / 2 ^ (64 - s) := by
    rw [u64_or _ _ hhP (by omega) lt0 (by omega)]
    obtain ⟨H, rfl⟩ := Int.eq_ofNat_of_zero_le h0
    obtain ⟨T, hT⟩ := Int.eq_ofNat_of_zero_le lt0
    rw [hT] at lt1 ⊢
    have e1 : ((H : Int) * 2 ^ s).toNat = H * 2 ^ s := by
      have : ((H : Int) * 2 ^ s) = ((H * 2 ^ s : Nat) : Int) := by rw [Int.natCast_mul, Int.natCast_pow]; rfl
      rw [this, Int.toNat_natCast]
    have e2 : T < 2 ^ s := by
      have h2 : ((T : Nat) : Int) < ((2 ^ s : Nat) : Int) := by rw [Int.natCast_pow]; exact lt1
      exact Int.ofNat_lt.1 h2
    rw [e1, Int.toNat_natCast, nat_join s _ _ (Nat.mul_mod_left _ _) e2, Int.natCast_add, Int.natCast_mul, Int.natCast_pow]
    rfl
  rw [hw, hor]
  have hd : l * 2 ^ s / 18446744073709551616 = l / 2 ^ (64 - s) := by rw [← hPR, Int.mul_ediv_mul_of_pos_left _ _ (by omega)]
  have hmod := IntKind.wrap_u64 (l * 2 ^ s)
  refine ⟨hhP, by omega, by omega, ?_, by rw [hmod]; omega⟩
  rw [hmod, Int.add_mul, Int.mul_right_comm h]
  omega

set_option maxHeartbeats 1000000 in
theorem div64_big (h l y : Int) (w : World) (hh : 0 < h) (hl : Word l) (hy : Word y) (hhy : h < y) :
    Calls Tryz.prog 127 #[.int .u64 h, .int .u64 l, .int .u64 y] w fun e w' => e = .returned (.tuple #[.int .u64 ((h * 18446744073709551616 + l) / y), .int .u64 ((h * 18446744073709551616 + l) % y)]) ∧ Below w.heap.size w w' := by
  have hyw := hy
  obtain ⟨l0, l1⟩ := hl; obtain ⟨yy0, yy1⟩ := hy
  have e1 : (y == 0) = false := beq_eq_false_iff_ne.2 (by omega)
  have e2 : decide (y ≤ h) = false := decide_eq_false (by omega)
  have e3 : (h == 0) = false := beq_eq_false_iff_ne.2 (by omega)
  obtain ⟨s, hs64, hs, hlo, hhi⟩ := lz_spec y (by omega) yy1
  have HS := Lib.hid hs
  clear hs
  obtain ⟨top, X0, X1, X2, X3⟩ := shifted (h := h) (l := l) (y := y) (s := s) (by omega) l0 l1 hhy hs64 hhi
  obtain ⟨Y, k4⟩ : ∃ x, y * 2 ^ s = x := ⟨_, rfl⟩
  rw [k4] at hlo hhi X1
  obtain ⟨y1, k5⟩ : ∃ x, Y / 4294967296 = x := ⟨_, rfl⟩
  obtain ⟨y0, k6⟩ : ∃ x, Y % 4294967296 = x := ⟨_, rfl⟩
  have hand := u64_low32
  have a0 : 2147483648 ≤ y1 := by omega
  have a1 : y1 < 4294967296 := by omega
  have b0 : 0 ≤ y0 := by omega
  have b1 : y0 < 4294967296 := by omega
  have hYs : Y = y1 * 4294967296 + y0 := by omega
  have Yp : 0 < Y := by omega
  obtain ⟨U, k3⟩ : ∃ x, bits BinOp.or IntKind.u64 (IntKind.u64.wrap (h * 2 ^ s)) (l / 2 ^ (64 - s)) = x := ⟨_, rfl⟩
  rw [k3] at X0 X1 X2
  obtain ⟨L, k7⟩ : ∃ x, IntKind.u64.wrap (l * 2 ^ s) = x := ⟨_, rfl⟩
  rw [k7] at X2 X3
  obtain ⟨D1, k8⟩ : ∃ x, L / 4294967296 = x := ⟨_, rfl⟩
  obtain ⟨D0, k9⟩ : ∃ x, L % 4294967296 = x := ⟨_, rfl⟩
  have d10 : 0 ≤ D1 := by omega
  have d11 : D1 < 4294967296 := by omega
  have d20 : 0 ≤ D0 := by omega
  have d21 : D0 < 4294967296 := by omega
  have hX : (h * 18446744073709551616 + l) * 2 ^ s = (U * 4294967296 + D1) * 4294967296 + D0 := by omega
  have HX := Lib.hid hX
  have u10 : 0 ≤ U := X0
  have u1Y : U < y1 * 4294967296 + y0 := by omega
  obtain ⟨qi, kq⟩ : ∃ x, U / y1 = x := ⟨_, rfl⟩
  have kq1 := Lib.hid kq
  have q10 : 0 ≤ qi := by rw [← kq]; exact Int.ediv_nonneg u10 (by omega)
  have qm := Int.ediv_mul_le U (b := y1) (by omega)
  rw [kq] at qm
  have qm0 : 0 ≤ qi * y1 := Int.mul_nonneg q10 (by omega)
  obtain ⟨ri, kr⟩ : ∃ x, U - qi * y1 = x := ⟨_, rfl⟩
  have kr1 := Lib.hid kr
  have HYS := Lib.hid hYs
  have U64 : U < 18446744073709551616 := by omega
  clear hX hYs X0 X1 X2 X3
  go_enter Tryz.func127, Tryz.ntmps127
  go_wp2_with fail
  with_reducible refine (lz_any y _ hyw).mono ?_
  rw [HS.out]
  rintro e w1 ⟨rfl, rfl⟩
  go_upto_block 0 with (fail)
  try rw [kq]
  try rw [kr]
  have K4 := Lib.hid k4
  clear k3 k4 k5 k6 k7 k8 k9 kq kr qm qm0 hand hlo HS top
  go_cut [15] (fun qv wc => ∃ q1 : Int, qv = .int .u64 q1 ∧ q1 = digit U D1 y1 y0 ∧ w = wc)
  case first =>
    obtain ⟨dg1, hdg1⟩ := Dig.start (u := U) (d := D1) (y1 := y1) (y0 := y0) u10 u1Y d10 d11 a0 a1 b0 b1
    rw [kq1.out] at dg1 hdg1
    rw [kr1.out] at dg1 hdg1
    clear u10 u1Y
    go_wp2_with fail
    go_loopg [15, 16] qi.toNat (fun g qv rv wr => ∃ q rh : Int, qv = .int .u64 q ∧ rv = .int .u64 rh ∧ q.toNat = g ∧ 0 ≤ q ∧ Dig U D1 y1 y0 q rh ∧ rh < 4294967296 ∧ w = wr)
    case atStart => exact ⟨qi, _, rfl, rfl, rfl, q10, dg1, hdg1, rfl⟩
    case round =>
      obtain ⟨q, rh, rfl, rfl, hg, hq0, hD, hrh, rfl⟩ := hrel
      clear dg1 hdg1 q10
      have HD := Lib.hid hD
      have r0 := hD.rh0
      have q9 := hD.q1
      clear hD
      by_cases hlt : digit U D1 y1 y0 < q
      · have HL := Lib.hid hlt
        have HD2 := Lib.hid (HD.out.less hlt)
        have hdn := digit_nonneg (u := U) (d := D1) (y1 := y1) (y0 := y0) HD.out.u0 d10 (by omega) b0
        have q8 : 1 ≤ q := by omega
        clear hlt hdn
        by_cases hqb : 4294967296 ≤ q
        · by_cases hst : 4294967296 ≤ rh + y1
          · have HE := Lib.hid (HD2.out.stop hst (by omega))
            go_wp2_with fail
            go_meet
            case rel => exact ⟨q - 1, rfl, HE.out, rfl⟩
          · have hst2 : rh + y1 < 4294967296 := by omega
            go_wp2_with fail
            go_roundg (gk - 1)
            case rel => exact ⟨q - 1, rh + y1, rfl, rfl, by omega, by omega, HD2.out, by omega, rfl⟩
            case measure => omega
        · have hqs : q < 4294967296 := by omega
          obtain ⟨p0, p1⟩ := HD.out.prod hqs hq0
          have ht := HD.out.test.1 HL.out
          by_cases hst : 4294967296 ≤ rh + y1
          · have HE := Lib.hid (HD2.out.stop hst (by omega))
            go_wp2_with fail
            go_meet
            case rel => exact ⟨q - 1, rfl, HE.out, rfl⟩
          · have hst2 : rh + y1 < 4294967296 := by omega
            go_wp2_with fail
            go_roundg (gk - 1)
            case rel => exact ⟨q - 1, rh + y1, rfl, rfl, by omega, by omega, HD2.out, by omega, rfl⟩
            case measure => omega
      · have HE := Lib.hid (HD.out.done hlt)
        have hqs : q < 4294967296 := by
          have := digit_lt HD.out.u0 HD.out.uY d11
          have := HE.out
          omega
        obtain ⟨p0, p1⟩ := HD.out.prod hqs hq0
        have ht : q * y0 ≤ 4294967296 * rh + D1 := by have := mt HD.out.test.2 hlt; omega
        clear hlt
        go_wp2_with fail
        go_meet
        case rel => exact ⟨q, rfl, HE.out, rfl⟩
  case rest =>
    obtain ⟨q1, rfl, hq1, rfl⟩ := hcut
    have hq1b := digit_lt u10 u1Y d11
    have hq1a := digit_nonneg (y1 := y1) (y0 := y0) u10 d10 (by omega) b0
    rw [← hq1] at hq1a hq1b
    have HQ1 : Hid (q1 = (U * 4294967296 + D1) / Y) := by
      unfold digit at hq1
      rw [← HYS.out] at hq1
      exact hq1
    clear hq1 u10 u1Y kq1 kr1 q10
    have hl2 := digit_left (u := U) (d := D1) (Y := Y) (by omega)
    rw [← HQ1.out] at hl2
    obtain ⟨hl20, hl21⟩ := hl2
    have hw2 := wrap_left (u := U) (d := D1) (Y := Y) (q := q1) hl20 (by omega)
    obtain ⟨u2, hu2⟩ : ∃ x, U * 4294967296 + D1 - q1 * Y = x := ⟨_, rfl⟩
    rw [hu2] at hl20 hl21 hw2
    have HU2 := Lib.hid hu2.symm
    clear hu2
    have u264 : u2 < 18446744073709551616 := by omega
    have u20 : 0 ≤ u2 := hl20
    have u2Y : u2 < y1 * 4294967296 + y0 := by rw [← HYS.out]; exact hl21
    obtain ⟨qj, kqj⟩ : ∃ x, u2 / y1 = x := ⟨_, rfl⟩
    have kq2 := Lib.hid kqj
    have q20 : 0 ≤ qj := by rw [← kqj]; exact Int.ediv_nonneg u20 (by omega)
    have qm := Int.ediv_mul_le u2 (b := y1) (by omega)
    rw [kqj] at qm
    have qm0 : 0 ≤ qj * y1 := Int.mul_nonneg q20 (by omega)
    obtain ⟨rj, krj⟩ : ∃ x, u2 - qj * y1 = x := ⟨_, rfl⟩
    have kr2 := Lib.hid krj
    clear hl20
    go_upto_region 22 with (fail)
    try rw [hw2]
    clear hw2
    go_upto_block 2 with (fail)
    try rw [kqj]
    try rw [krj]
    clear kqj krj qm qm0
    go_cut [18] (fun qv wc => ∃ q0 : Int, qv = .int .u64 q0 ∧ q0 = digit u2 D0 y1 y0 ∧ w = wc)
    case first =>
      obtain ⟨dg2, hdg2⟩ := Dig.start (u := u2) (d := D0) (y1 := y1) (y0 := y0) u20 u2Y d20 d21 a0 a1 b0 b1
      rw [kq2.out] at dg2 hdg2
      rw [kr2.out] at dg2 hdg2
      clear u20 u2Y
      go_wp2_with fail
      go_loopg [18, 16] qj.toNat (fun g qv rv wr => ∃ q rh : Int, qv = .int .u64 q ∧ rv = .int .u64 rh ∧ q.toNat = g ∧ 0 ≤ q ∧ Dig u2 D0 y1 y0 q rh ∧ rh < 4294967296 ∧ w = wr)
      case atStart => exact ⟨qj, _, rfl, rfl, rfl, q20, dg2, hdg2, rfl⟩
      case round =>
        obtain ⟨q, rh, rfl, rfl, hg, hq0, hD, hrh, rfl⟩ := hrel
        clear dg2 hdg2 q20
        have HD := Lib.hid hD
        have r0 := hD.rh0
        have q9 := hD.q1
        clear hD
        by_cases hlt : digit u2 D0 y1 y0 < q
        · have HL := Lib.hid hlt
          have HD2 := Lib.hid (HD.out.less hlt)
          have hdn := digit_nonneg (u := u2) (d := D0) (y1 := y1) (y0 := y0) HD.out.u0 d20 (by omega) b0
          have q8 : 1 ≤ q := by omega
          clear hlt hdn
          by_cases hqb : 4294967296 ≤ q
          · by_cases hst : 4294967296 ≤ rh + y1
            · have HE := Lib.hid (HD2.out.stop hst (by omega))
              go_wp2_with fail
              go_meet
              case rel => exact ⟨q - 1, rfl, HE.out, rfl⟩
            · have hst2 : rh + y1 < 4294967296 := by omega
              go_wp2_with fail
              go_roundg (gk - 1)
              case rel => exact ⟨q - 1, rh + y1, rfl, rfl, by omega, by omega, HD2.out, by omega, rfl⟩
              case measure => omega
          · have hqs : q < 4294967296 := by omega
            obtain ⟨p0, p1⟩ := HD.out.prod hqs hq0
            have ht := HD.out.test.1 HL.out
            by_cases hst : 4294967296 ≤ rh + y1
            · have HE := Lib.hid (HD2.out.stop hst (by omega))
              go_wp2_with fail
              go_meet
              case rel => exact ⟨q - 1, rfl, HE.out, rfl⟩
            · have hst2 : rh + y1 < 4294967296 := by omega
              go_wp2_with fail
              go_roundg (gk - 1)
              case rel => exact ⟨q - 1, rh + y1, rfl, rfl, by omega, by omega, HD2.out, by omega, rfl⟩
              case measure => omega
        · have HE := Lib.hid (HD.out.done hlt)
          have hqs : q < 4294967296 := by
            have := digit_lt HD.out.u0 HD.out.uY d21
            have := HE.out
            omega
          obtain ⟨p0, p1⟩ := HD.out.prod hqs hq0
          have ht : q * y0 ≤ 4294967296 * rh + D0 := by have := mt HD.out.test.2 hlt; omega
          clear hlt
          go_wp2_with fail
          go_meet
          case rel => exact ⟨q, rfl, HE.out, rfl⟩
    case rest =>
      obtain ⟨q0, rfl, hq0, rfl⟩ := hcut
      have hq0b := digit_lt u20 u2Y d21
      have hq0a := digit_nonneg (y1 := y1) (y0 := y0) u20 d20 (by omega) b0
      rw [← hq0] at hq0a hq0b
      have HQ0 : Hid (q0 = (u2 * 4294967296 + D0) / Y) := by
        unfold digit at hq0
        rw [← HYS.out] at hq0
        exact hq0
      clear hq0
      have fin := two_digits (X := h * 18446744073709551616 + l) (y := y) (P := 2 ^ s) (by have := pow2_pos' s; omega) (by omega) HX.out (q1 := q1) (q0 := q0) (u2 := u2) (by rw [K4.out]; exact HQ1.out) (by rw [K4.out]; exact HU2.out) (by rw [K4.out]; exact HQ0.out)
      obtain ⟨fin1, fin2⟩ := fin
      have hl3 := digit_left (u := u2) (d := D0) (Y := Y) (by omega)
      rw [← HQ0.out] at hl3
      obtain ⟨hl30, hl31⟩ := hl3
      have hw3 := wrap_left (u := u2) (d := D0) (Y := Y) (q := q0) hl30 (by omega)
      rw [K4.out] at fin2
      rw [← fin2] at hw3
      have HF1 := Lib.hid fin1
      have HF2 := Lib.hid (show (h * 18446744073709551616 + l) % y * 2 ^ s / 2 ^ s = (h * 18446744073709551616 + l) % y from Int.mul_ediv_cancel _ (by have := pow2_pos' s; omega))
      have rm0 : 0 ≤ (h * 18446744073709551616 + l) % y * 2 ^ s := by rw [fin2]; exact hl30
      clear fin1 fin2 hl30 hl31
      go_upto_region 28 with (fail)
      go_wp2_with fail
      rw [HF2.out]
      go_ret2
      rw [HF1.out]
      exact ⟨rfl, Below.refl _ _⟩

end Go.Proofs.YtjhffbhjiflfeaaGreat
