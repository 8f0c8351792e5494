/-
  What an eye does: numbers, of seven bits a byte.
-/
import Derived.Test.YtjhffbhjiflfeaaDoorProg
import Derived.Test.YtjhffbhjiflfeaaDoorOctC
import Derived.Test.YtjhffbhjiflfeaaDoorMul
import Derived.Laws.BitsAllLaws
namespace Go.Proofs.YtjhffbhjiflfeaaDoor
set_option linter.unusedVariables false
set_option linter.unusedSimpArgs false
set_option maxRecDepth 100000
open Go.RowKit

/-- What reading a number tells, what is left, and whether the eye has failed. -/
def numR (l : List Nat) : Nat := match decB 0 l with | none => 0 | some (n, _) => n
def numL (l : List Nat) : List Nat := match decB 0 l with | none => [] | some (_, t) => t
def numF (l : List Nat) : Bool := (decB 0 l).isNone
theorem num_none {l : List Nat} (h : decB 0 l = none) : numR l = 0 ∧ numL l = [] ∧ numF l = true := by simp [numR, numL, numF, h]
theorem num_some {l t : List Nat} {n : Nat} (h : decB 0 l = some (n, t)) : numR l = n ∧ numL l = t ∧ numF l = false := by simp [numR, numL, numF, h]

/-- Ahead of the i-th byte: what the rest gives, with what is there already, is the number. -/
def NumAt (l0 : List Nat) (i S : Nat) (l : List Nat) : Prop := (match decB i l with | none => none | some (v, t) => some (S + 128 ^ i * v, t)) = decB 0 l0 ∧ S < 128 ^ i ∧ i ≤ 9
theorem NumAt.start (l : List Nat) : NumAt l 0 0 l := by
  refine ⟨?_, by decide, by decide⟩
  cases h : decB 0 l with
  | none => rfl
  | some p => obtain ⟨v, t⟩ := p; simp
theorem NumAt.ends {l0 : List Nat} {i S : Nat} (h : NumAt l0 i S []) : decB 0 l0 = none := by rw [← h.1]; rfl
theorem NumAt.fails {l0 t : List Nat} {i S b : Nat} (h : NumAt l0 i S (b :: t)) (hg : 18446744073709551616 ≤ b % 128 * 128 ^ i ∨ (b = 0 ∧ 0 < i) ∨ (128 ≤ b ∧ i = 9)) : decB 0 l0 = none := by
  rw [← h.1, decB, if_pos hg]
theorem NumAt.done {l0 t : List Nat} {i S b : Nat} (h : NumAt l0 i S (b :: t)) (hg : ¬ (18446744073709551616 ≤ b % 128 * 128 ^ i ∨ (b = 0 ∧ 0 < i) ∨ (128 ≤ b ∧ i = 9))) (hb : b < 128) : decB 0 l0 = some (S + b % 128 * 128 ^ i, t) := by
  rw [← h.1, decB, if_neg hg, if_pos hb, Nat.mod_eq_of_lt hb, Nat.mul_comm b]
theorem NumAt.more {l0 t : List Nat} {i S b : Nat} (h : NumAt l0 i S (b :: t)) (hg : ¬ (18446744073709551616 ≤ b % 128 * 128 ^ i ∨ (b = 0 ∧ 0 < i) ∨ (128 ≤ b ∧ i = 9))) (hb : 128 ≤ b) : NumAt l0 (i + 1) (S + b % 128 * 128 ^ i) t := by
  obtain ⟨h1, h2, h3⟩ := h
  refine ⟨?_, ?_, ?_⟩
  · rw [← h1, decB, if_neg hg, if_neg (by omega)]
    cases hd : decB (i + 1) t with
    | none => rfl
    | some p =>
      obtain ⟨v, t'⟩ := p
      simp only [Option.some.injEq, Prod.mk.injEq, and_true]
      rw [Nat.mul_add, Nat.pow_succ, Nat.mul_comm (128 ^ i) (b % 128), Nat.mul_assoc (128 ^ i) 128 v, Nat.add_assoc]
  · rw [Nat.pow_succ]
    have : b % 128 * 128 ^ i ≤ 127 * 128 ^ i := Nat.mul_le_mul_right _ (by omega)
    omega
  · omega
theorem join_or {i S q : Nat} (h : S < 128 ^ i) : S ||| q * 128 ^ i = S + q * 128 ^ i := by
  have e : 128 ^ i = 2 ^ (7 * i) := by rw [Nat.pow_mul]
  rw [e] at h ⊢
  rw [Nat.mul_comm q, Nat.or_comm, ← Nat.two_pow_add_eq_or_of_lt h, Nat.add_comm]
theorem pow128_le {i : Nat} (h : i ≤ 9) : 128 ^ i ≤ 9223372036854775808 := Nat.le_trans (Nat.pow_le_pow_right (by decide) h) (by decide)

set_option maxHeartbeats 2000000 in
theorem eyeNum (g : Nat) (l : List Nat) (f : Bool) (w : World) (h : EyeAt w g l f) :
    Calls Tryd.prog 30 #[.pointer (some ⟨g, 0, none⟩)] w fun e w' => e = .returned (.int .u64 (numR l)) ∧ EyeTo g (numL l) (numF l) w w' := by
  have BY := Lib.hid (fun w l f h => eyeByte g l f w h)
  have FD := Lib.hid (fun w l f h => eyeFailed g l f w h)
  have FL := Lib.hid (fun w l f h => eyeFail g l f w h)
  have H : Hid (EyeTo g l f w w) := EyeTo.refl h
  clear h
  go_enter Tryd.func30, Tryd.ntmps30
  go_wp2_with fail
  go_loopg [3, 4] 10 (fun gk s u wr => ∃ (i S : Nat) (l1 : List Nat) (f1 : Bool), i + gk = 10 ∧ s = .int .u64 S ∧ u = .int .u64 ((128 ^ i : Nat) : Int) ∧ NumAt l i S l1 ∧ EyeTo g l1 f1 w wr)
  case atStart => exact ⟨0, 0, l, f, rfl, rfl, rfl, NumAt.start l, H.out⟩
  case round =>
    obtain ⟨i, S, l1, f1, hgk, rfl, rfl, hN, hE, hF⟩ := hrel
    have hi := hN.2.2
    have hS := hN.2.1
    have hU := pow128_le hi
    have hU0 := pow128_pos i
    have HN := Lib.hid hN
    have HE := Lib.hid hE
    have HF := Lib.hid hF
    clear hN hE hF
    cases l1 with
    | nil =>
      have R := Lib.hid (num_none HN.out.ends)
      generalize 128 ^ i = U at *
      have M := Lib.hid (fun w => mul_any 0 (U : Int) w (by constructor <;> decide) ⟨by omega, by omega⟩)
      simp only [Int.zero_mul, Int.zero_ediv, Int.zero_emod] at M
      go_wp2_with fail
      with_reducible refine (BY.out _ _ _ HE.out).mono ?_
      rintro e w1 ⟨rfl, hp, hf⟩
      have HP : Hid (EyeAt w1 g [] true) := hp
      have HG := Lib.hid hf
      clear hp hf
      have hz : (((byteR [] : Nat) : Int)) = 0 := rfl
      go_wp2_with fail
      with_reducible refine (M.out _).mono ?_
      rintro e w2 ⟨rfl, hb⟩
      have HB := Lib.hid hb
      have HP2 : Hid (EyeAt (w2.alloc (.cells #[.int .u64 0, .int .u64 0] 99)) g [] true) := (HP.out.below hb).below ((Below.refl _ _).alloc (Nat.le_refl _) _)
      clear hb
      go_wp2_with fail
      with_reducible refine (FD.out _ _ _ HP2.out).mono ?_
      rintro e w3 ⟨rfl, rfl⟩
      go_wp2_with fail
      go_ret
      refine ⟨retInt (by rw [R.out.1]; rfl), ?_⟩
      rw [R.out.2.1, R.out.2.2]
      exact (EyeTo.next HF.out (EyeTo.next HG.out (EyeTo.below (EyeTo.ahead HB.out (EyeTo.refl (HP.out.below HB.out))) ((Below.refl _ _).alloc (Nat.le_refl _) _))))
    | cons b t =>
      have hf1 : f1 = false := by cases f1 with | false => rfl | true => exact absurd (HE.out.2.2 rfl) (by simp)
      subst hf1
      have hb : b < 256 := HE.out.2.1 b (List.mem_cons_self ..)
      have BY := Lib.hid (fun w h => eyeByteMore g b t false w h)
      obtain ⟨U, hU2⟩ : ∃ U, 128 ^ i = U := ⟨_, rfl⟩
      rw [hU2] at hS hU hU0
      have eP : (b : Int) % 128 * (U : Int) = ((b % 128 * U : Nat) : Int) := by simp
      obtain ⟨P, hP⟩ : ∃ P, b % 128 * U = P := ⟨_, rfl⟩
      rw [hP] at eP
      obtain ⟨h, eh⟩ : ∃ h, (b : Int) % 128 * (U : Int) / 18446744073709551616 = h := ⟨_, rfl⟩
      obtain ⟨lo, el⟩ : ∃ h, (b : Int) % 128 * (U : Int) % 18446744073709551616 = h := ⟨_, rfl⟩
      have M := Lib.hid (fun w => mul_any ((b : Int) % 128) (U : Int) w ⟨by omega, by omega⟩ ⟨by omega, by omega⟩)
      rw [eh, el] at M
      have hh : h = (P : Int) / 18446744073709551616 := by rw [← eh, eP]
      have hlo : lo = (P : Int) % 18446744073709551616 := by rw [← el, eP]
      have hi0 : i = 0 → U = 1 := by rintro rfl; rw [← hU2]
      have hi1 : 0 < i → 128 ≤ U := by
        intro h
        obtain ⟨j, rfl⟩ := Nat.exists_eq_add_of_lt h
        have := pow128_pos (0 + j)
        rw [Nat.pow_succ] at hU2
        omega
      have hi9 : i = 9 → U = 9223372036854775808 := by rintro rfl; rw [← hU2]
      have hi8 : i < 9 → U ≤ 72057594037927936 := fun h => by rw [← hU2]; exact Nat.le_trans (Nat.pow_le_pow_right (by decide) (show i ≤ 8 by omega)) (by decide)
      rw [hU2]
      have EU := Lib.hid hU2
      clear hU2 eP eh el
      by_cases hA : 18446744073709551616 ≤ P
      · have R := Lib.hid (num_none (HN.out.fails (.inl (by rw [EU.out, hP]; exact hA))))
        have h0 : 0 < h := by omega
        clear hh hlo hP hi0 hi1 hi8 hi9
        go_wp2_with fail
        with_reducible refine (BY.out _ HE.out).mono ?_
        rintro e w1 ⟨rfl, hp, hf⟩
        have HP := Lib.hid hp
        have HG := Lib.hid hf
        clear hp hf
        go_wp2_with fail
        with_reducible refine (M.out _).mono ?_
        rintro e w2 ⟨rfl, hb⟩
        have HB := Lib.hid hb
        have HP2 := Lib.hid ((HP.out.below hb).below ((Below.refl _ _).alloc (Nat.le_refl _) (.cells #[.int .u64 h, .int .u64 lo] 99)))
        have HF2 := Lib.hid (HF.out.trans (HG.out.trans ((Fr.of_new hb : Fr (fun k => k = g) _ _).trans (Fr.of_new ((Below.refl _ _).alloc (Nat.le_refl _) (.cells #[.int .u64 h, .int .u64 lo] 99))))))
        clear hb
        go_wp2_with fail
        with_reducible refine (FD.out _ _ _ HP2.out).mono ?_
        rintro e w3 ⟨rfl, rfl⟩
        go_wp2_with fail
        with_reducible refine (FL.out _ _ _ HP2.out).mono ?_
        rintro e w4 ⟨rfl, hq⟩
        have HQ := Lib.hid hq
        clear hq
        go_wp2_with fail
        go_ret
        refine ⟨retInt (by rw [R.out.1]; rfl), ?_⟩
        rw [R.out.2.1, R.out.2.2]
        exact EyeTo.next HF2.out HQ.out
      have hz : ¬ (0 : Int) < h := by omega
      have hlo2 : lo = (P : Int) := by omega
      clear hh hlo
      by_cases hB : b = 0 ∧ 0 < i
      · obtain ⟨hb0, hi2⟩ := hB
        have R := Lib.hid (num_none (HN.out.fails (.inr (.inl ⟨hb0, hi2⟩))))
        have bz : ((b : Int) == 0) = true := beq_iff_eq.2 (by omega)
        have u1 := hi1 hi2
        clear hP hi0 hi1 hi8 hi9 hlo2 hb0
        go_wp2_with fail
        with_reducible refine (BY.out _ HE.out).mono ?_
        rintro e w1 ⟨rfl, hp, hf⟩
        have HP := Lib.hid hp
        have HG := Lib.hid hf
        clear hp hf
        go_wp2_with fail
        with_reducible refine (M.out _).mono ?_
        rintro e w2 ⟨rfl, hb⟩
        have HB := Lib.hid hb
        have HP2 := Lib.hid ((HP.out.below hb).below ((Below.refl _ _).alloc (Nat.le_refl _) (.cells #[.int .u64 h, .int .u64 lo] 99)))
        have HF2 := Lib.hid (HF.out.trans (HG.out.trans ((Fr.of_new hb : Fr (fun k => k = g) _ _).trans (Fr.of_new ((Below.refl _ _).alloc (Nat.le_refl _) (.cells #[.int .u64 h, .int .u64 lo] 99))))))
        clear hb
        go_wp2_with fail
        with_reducible refine (FD.out _ _ _ HP2.out).mono ?_
        rintro e w3 ⟨rfl, rfl⟩
        go_wp2_with fail
        with_reducible refine (FL.out _ _ _ HP2.out).mono ?_
        rintro e w4 ⟨rfl, hq⟩
        have HQ := Lib.hid hq
        clear hq
        go_wp2_with fail
        go_ret
        refine ⟨retInt (by rw [R.out.1]; rfl), ?_⟩
        rw [R.out.2.1, R.out.2.2]
        exact EyeTo.next HF2.out HQ.out
      by_cases hC : 128 ≤ b ∧ i = 9
      · obtain ⟨hb2, rfl⟩ := hC
        have R := Lib.hid (num_none (HN.out.fails (.inr (.inr ⟨hb2, rfl⟩))))
        have u1 : ((U : Int) == 9223372036854775808) = true := beq_iff_eq.2 (by have := hi9 rfl; omega)
        have bz : ((b : Int) == 0) = false := beq_eq_false_iff_ne.2 (by omega)
        clear hP hi0 hi1 hi8 hi9 hlo2 hB
        go_wp2_with fail
        with_reducible refine (BY.out _ HE.out).mono ?_
        rintro e w1 ⟨rfl, hp, hf⟩
        have HP := Lib.hid hp
        have HG := Lib.hid hf
        clear hp hf
        go_wp2_with fail
        with_reducible refine (M.out _).mono ?_
        rintro e w2 ⟨rfl, hb⟩
        have HB := Lib.hid hb
        have HP2 := Lib.hid ((HP.out.below hb).below ((Below.refl _ _).alloc (Nat.le_refl _) (.cells #[.int .u64 h, .int .u64 lo] 99)))
        have HF2 := Lib.hid (HF.out.trans (HG.out.trans ((Fr.of_new hb : Fr (fun k => k = g) _ _).trans (Fr.of_new ((Below.refl _ _).alloc (Nat.le_refl _) (.cells #[.int .u64 h, .int .u64 lo] 99))))))
        clear hb
        go_wp2_with fail
        with_reducible refine (FD.out _ _ _ HP2.out).mono ?_
        rintro e w3 ⟨rfl, rfl⟩
        go_wp2_with fail
        with_reducible refine (FL.out _ _ _ HP2.out).mono ?_
        rintro e w4 ⟨rfl, hq⟩
        have HQ := Lib.hid hq
        clear hq
        go_wp2_with fail
        go_ret
        refine ⟨retInt (by rw [R.out.1]; rfl), ?_⟩
        rw [R.out.2.1, R.out.2.2]
        exact EyeTo.next HF2.out HQ.out
      have hguard : ¬ (18446744073709551616 ≤ b % 128 * 128 ^ i ∨ (b = 0 ∧ 0 < i) ∨ (128 ≤ b ∧ i = 9)) := by
        rw [EU.out, hP]; intro hh; rcases hh with hh | hh | hh <;> omega
      have OR : Hid (bits .or .u64 (S : Int) (lo : Int) = ((S + b % 128 * U : Nat) : Int)) := by
        have := join_or (i := i) (S := S) (q := b % 128) (by rw [EU.out]; exact hS)
        rw [EU.out] at this
        show bits .or .u64 (S : Int) lo = _
        rw [hlo2, u64_or _ _ (by omega) (by omega) (by omega) (by omega), ← hP, Int.toNat_natCast, Int.toNat_natCast, this]
      by_cases hlt : b < 128
      · have R := Lib.hid (num_some (HN.out.done hguard hlt))
        rw [EU.out] at R
        by_cases hb0 : b = 0
        · have u1 : ¬ (1 : Int) < (U : Int) := by have := hi0 (by omega); omega
          have bz : ((b : Int) == 0) = true := beq_iff_eq.2 (by omega)
          have bg : ¬ (128 : Int) ≤ (b : Int) := by omega
          clear hb0 hP hi0 hi1 hi8 hi9 hlo2 hB hC hguard
          go_wp2_with fail
          with_reducible refine (BY.out _ HE.out).mono ?_
          rintro e w1 ⟨rfl, hp, hf⟩
          have HP := Lib.hid hp
          have HG := Lib.hid hf
          clear hp hf
          go_wp2_with fail
          with_reducible refine (M.out _).mono ?_
          rintro e w2 ⟨rfl, hb⟩
          have HB := Lib.hid hb
          have HP2 := Lib.hid ((HP.out.below hb).below ((Below.refl _ _).alloc (Nat.le_refl _) (.cells #[.int .u64 h, .int .u64 lo] 99)))
          have HF2 := Lib.hid (HF.out.trans (HG.out.trans ((Fr.of_new hb : Fr (fun k => k = g) _ _).trans (Fr.of_new ((Below.refl _ _).alloc (Nat.le_refl _) (.cells #[.int .u64 h, .int .u64 lo] 99))))))
          clear hb
          go_wp2_with fail
          with_reducible refine (FD.out _ _ _ HP2.out).mono ?_
          rintro e w3 ⟨rfl, rfl⟩
          go_wp2_with fail
          go_ret
          refine ⟨retInt (by rw [R.out.1]; exact OR.out), ?_⟩
          rw [R.out.2.1, R.out.2.2]
          exact EyeTo.next HF2.out (EyeTo.refl HP2.out)
        · have bz : ((b : Int) == 0) = false := beq_eq_false_iff_ne.2 (by omega)
          have bg : ¬ (128 : Int) ≤ (b : Int) := by omega
          clear hP hi0 hi1 hi8 hi9 hlo2 hB hC hguard
          go_wp2_with fail
          with_reducible refine (BY.out _ HE.out).mono ?_
          rintro e w1 ⟨rfl, hp, hf⟩
          have HP := Lib.hid hp
          have HG := Lib.hid hf
          clear hp hf
          go_wp2_with fail
          with_reducible refine (M.out _).mono ?_
          rintro e w2 ⟨rfl, hb⟩
          have HB := Lib.hid hb
          have HP2 := Lib.hid ((HP.out.below hb).below ((Below.refl _ _).alloc (Nat.le_refl _) (.cells #[.int .u64 h, .int .u64 lo] 99)))
          have HF2 := Lib.hid (HF.out.trans (HG.out.trans ((Fr.of_new hb : Fr (fun k => k = g) _ _).trans (Fr.of_new ((Below.refl _ _).alloc (Nat.le_refl _) (.cells #[.int .u64 h, .int .u64 lo] 99))))))
          clear hb
          go_wp2_with fail
          with_reducible refine (FD.out _ _ _ HP2.out).mono ?_
          rintro e w3 ⟨rfl, rfl⟩
          go_wp2_with fail
          go_ret
          refine ⟨retInt (by rw [R.out.1]; exact OR.out), ?_⟩
          rw [R.out.2.1, R.out.2.2]
          exact EyeTo.next HF2.out (EyeTo.refl HP2.out)
      · have hb2 : 128 ≤ b := by omega
        have R := Lib.hid (HN.out.more hguard hb2)
        rw [EU.out] at R
        have hi2 : i < 9 := by omega
        have bz : ((b : Int) == 0) = false := beq_eq_false_iff_ne.2 (by omega)
        have u2 := hi8 hi2
        have u3 : ((U : Int) == 9223372036854775808) = false := beq_eq_false_iff_ne.2 (by omega)
        have U1 : Hid ((128 ^ (i + 1) : Nat) = U * 128) := by unfold Hid; rw [Nat.pow_succ, EU.out]
        clear hP hi0 hi1 hi8 hi9 hlo2 hB hC hguard
        go_wp2_with fail
        with_reducible refine (BY.out _ HE.out).mono ?_
        rintro e w1 ⟨rfl, hp, hf⟩
        have HP := Lib.hid hp
        have HG := Lib.hid hf
        clear hp hf
        go_wp2_with fail
        with_reducible refine (M.out _).mono ?_
        rintro e w2 ⟨rfl, hb⟩
        have HB := Lib.hid hb
        have HP2 := Lib.hid ((HP.out.below hb).below ((Below.refl _ _).alloc (Nat.le_refl _) (.cells #[.int .u64 h, .int .u64 lo] 99)))
        have HF2 := Lib.hid (HF.out.trans (HG.out.trans ((Fr.of_new hb : Fr (fun k => k = g) _ _).trans (Fr.of_new ((Below.refl _ _).alloc (Nat.le_refl _) (.cells #[.int .u64 h, .int .u64 lo] 99))))))
        clear hb
        go_wp2_with fail
        with_reducible refine (FD.out _ _ _ HP2.out).mono ?_
        rintro e w3 ⟨rfl, rfl⟩
        go_wp2_with fail
        go_roundg (gk - 1)
        case rel => exact ⟨i + 1, S + b % 128 * U, t, false, by omega, by rw [OR.out], by rw [U1.out, Int.natCast_mul]; rfl, R.out, HP2.out, HF2.out⟩
        case measure => omega

end Go.Proofs.YtjhffbhjiflfeaaDoor
