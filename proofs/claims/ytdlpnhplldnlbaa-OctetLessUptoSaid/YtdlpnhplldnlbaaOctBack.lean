/-
  The walk of the law OctetBack: what is written is read as it was, and nothing is left.
-/
import Derived.Test.YtdlpnhplldnlbaaProg
import Derived.Test.YtdlpnhplldnlbaaOctAwake
import Derived.Test.YtdlpnhplldnlbaaOctG
namespace Go.Proofs.Ytdlpnhplldnlbaa
set_option linter.unusedVariables false
set_option linter.unusedSimpArgs false
set_option maxRecDepth 100000
open Go.RowKit

theorem zz_unz {m : Int} (h0 : -9223372036854775808 ≤ m) (h1 : m ≤ 9223372036854775807) : unz (zz m).toNat = m := by
  unfold zz unz
  split <;> split <;> omega
/-- A thing is read as it was written, whatever stands behind. -/
theorem read_back (k n : Int) (t : List Nat) (hn : Word n) (k0 : 0 ≤ k) : readB k n (thingB k n ++ t) = true ∧ readL k (thingB k n ++ t) = t ∧ readF k (thingB k n ++ t) false = false := by
  obtain ⟨n0, n1⟩ := hn
  rcases (show k % 4 = 0 ∨ k % 4 = 1 ∨ k % 4 = 2 ∨ k % 4 = 3 by omega) with hk | hk | hk | hk
  · rw [thingB0 hk]
    unfold readB readL readF
    rw [if_pos hk, if_pos hk, if_pos hk]
    refine ⟨?_, rfl, rfl⟩
    show (((n % 256).toNat : Int) == n % 256) = true
    rw [Int.toNat_of_nonneg (by omega)]; simp
  · rw [thingB1 hk]
    obtain ⟨a, b, c⟩ := num_some (decB_back (n := n.toNat) t (by omega))
    unfold readB readL readF
    rw [if_neg (by omega), if_pos hk, if_neg (by omega), if_pos hk, if_neg (by omega), if_pos hk, a, b, c]
    refine ⟨?_, rfl, rfl⟩
    rw [Int.toNat_of_nonneg n0]; simp
  · rw [thingB2 hk]
    obtain ⟨i0, i1⟩ := i64_range n
    have z := zz_word i0 i1
    obtain ⟨z0, z1⟩ := z
    obtain ⟨a, b, c⟩ := num_some (decB_back (n := (zz (IntKind.i64.wrap n)).toNat) t (by omega))
    unfold readB readL readF
    rw [if_neg (by omega), if_neg (by omega), if_pos hk, if_neg (by omega), if_neg (by omega), if_pos hk, if_neg (by omega), if_neg (by omega), if_pos hk, a, b, c, zz_unz i0 i1]
    exact ⟨by simp, rfl, rfl⟩
  · rw [thingB3 hk]
    unfold readB readL readF
    rw [if_neg (by omega), if_neg (by omega), if_neg (by omega), if_neg (by omega), if_neg (by omega), if_neg (by omega), if_neg (by omega), if_neg (by omega), if_neg (by omega)]
    unfold flagR flagL flagF
    have e : byteR ([flagB (decide (n % 2 = 1))] ++ t) = flagB (decide (n % 2 = 1)) := rfl
    rw [e]
    by_cases h : n % 2 = 1
    · have e2 : (n % 2 == 1) = true := beq_iff_eq.2 h
      rw [e2]
      simp [flagB, h, byteL, byteF]
    · have e2 : (n % 2 == 1) = false := beq_eq_false_iff_ne.2 h
      rw [e2]
      simp [flagB, h, byteL, byteF]

theorem rest_len (K N : Nat → Int) (n : Nat) (h : ∀ i, i < n → Word (N i)) : ∀ c i, i + c ≤ n → (rest K N c i).length ≤ 10 * c := by
  intro c
  induction c with
  | zero => intro i _; simp [rest]
  | succ c ih =>
    intro i hi
    have a := ih (i + 1) (by omega)
    have b := thingB_len (K i) (N i) (h i (by omega))
    rw [rest, List.length_append]
    omega
set_option maxHeartbeats 4000000 in
theorem octetBack_at (A : Option Addr) (n c : Nat) (K N : Nat → Int) (bh : List Nat) (w : World) (hm : n ≤ maxLen) (hA : 0 < n → ∃ b off, A = some ⟨b, off, none⟩ ∧ b < w.heap.size)
    (hK : ∀ i, i < n → 0 ≤ K i ∧ K i ≤ 255) (hN : ∀ i, i < n → Word (N i)) (hb : Bytes bh) (hbl : bh.length ≤ 9223372036854775807)
    (hC0 : ∀ b off, A = some ⟨b, off, none⟩ → ∀ i, i < n → w.cell? ⟨b, off + (i * 2 + 0), none⟩ = some (.int .u8 (K i))) (hC1 : ∀ b off, A = some ⟨b, off, none⟩ → ∀ i, i < n → w.cell? ⟨b, off + (i * 2 + 1), none⟩ = some (.int .u64 (N i))) :
    Calls Try.prog 6 #[.slice A n c, .string (bs bh)] w fun e w' => e = .returned (.bool true) ∧ Below w.heap.size w w' := by
  unfold maxLen at hm
  have AW := Lib.hid (fun w => octAwake w)
  have hsz := bs_size bh
  by_cases hbig : 300 < n ∨ 100 < bh.length
  · clear hA hK hN hC0 hC1
    by_cases h1 : 300 < n
    · clear hbig
      go_enter Try.func6, Try.ntmps6
      go_wp2_with fail
      with_reducible refine (AW.out _).mono ?_
      rintro e w1 ⟨rfl, hb1⟩
      have B1 : Below w.heap.size w w1 := by first | with_reducible exact hb1 | exact Below.trans (by go_grown) (hb1.mono (by simp only [World.size_alloc]; omega))
      clear hb1
      go_wp2_with fail
      go_ret
      exact ⟨by simp, B1⟩
    · have h2 : 100 < bh.length := by omega
      clear hbig
      go_enter Try.func6, Try.ntmps6
      go_wp2_with fail
      with_reducible refine (AW.out _).mono ?_
      rintro e w1 ⟨rfl, hb1⟩
      have B1 : Below w.heap.size w w1 := by first | with_reducible exact hb1 | exact Below.trans (by go_grown) (hb1.mono (by simp only [World.size_alloc]; omega))
      clear hb1
      go_wp2_with fail
      go_ret
      exact ⟨by simp, B1⟩
  have h1 : n ≤ 300 := by omega
  have h2 : bh.length ≤ 100 := by omega
  clear hbig hbl
  have hul := upto_len K N n hN n (Nat.le_refl _)
  have hS : ∀ i, i ≤ n → upto K N n = upto K N i ++ rest K N (n - i) i := by
    intro i hi
    have := upto_rest K N (n - i) i
    rwa [show i + (n - i) = n by omega] at this
  obtain ⟨S, hSS⟩ : ∃ S, upto K N n = S := ⟨_, rfl⟩
  have hSb : Bytes S := hSS ▸ upto_bytes K N n
  have hSr : S = rest K N n 0 := by rw [← hSS]; exact upto_all K N n
  rw [hSS] at hul
  have HK := Lib.hid hK
  have HN := Lib.hid hN
  have HC0 := Lib.hid hC0
  have HC1 := Lib.hid hC1
  have HA := Lib.hid hA
  have WR : Hid (∀ W, Below w.heap.size w W → Calls Try.prog 35 #[.slice A n c] W fun e w' => e = .returned (.tuple #[.string (bs S), .bool true]) ∧ Below W.heap.size W w') := by
    intro W hW
    have := written_any A n c K N W (by omega) (fun h => by obtain ⟨b, off, e, hb⟩ := hA h; exact ⟨b, off, e, Nat.lt_of_lt_of_le hb hW.size⟩) hK hN
      (fun b off e i hi => by obtain ⟨b', off', e', hb'⟩ := hA (by omega); rw [e] at e'; injection e' with e'; injection e' with e1 e2; subst e1 e2; exact (hW.cell (p := ⟨b, off + (i * 2 + 0), none⟩) hb').trans (hC0 b off e i hi))
      (fun b off e i hi => by obtain ⟨b', off', e', hb'⟩ := hA (by omega); rw [e] at e'; injection e' with e'; injection e' with e1 e2; subst e1 e2; exact (hW.cell (p := ⟨b, off + (i * 2 + 1), none⟩) hb').trans (hC1 b off e i hi))
    rw [hSS, if_pos (by omega), decide_eq_true (by omega)] at this
    exact this
  have OA := Lib.hid (fun w => eyeOpen S w hSb)
  have OB := Lib.hid (fun w => eyeOpen (S ++ bh) w (hSb.app hb))
  have ad := fun W => add_bs S bh (by omega) W
  have HSr := Lib.hid hSr
  clear hK hN hC0 hC1 hA hSb hS hSS hSr hb
  go_enter Try.func6, Try.ntmps6
  go_wp2_with fail
  with_reducible refine (AW.out _).mono ?_
  rintro e w1 ⟨rfl, hb1⟩
  have B1 : Below w.heap.size w w1 := by first | with_reducible exact hb1 | exact Below.trans (by go_grown) (hb1.mono (by simp only [World.size_alloc]; omega))
  clear hb1
  go_wp2_with fail
  with_reducible refine (WR.out _ B1).mono ?_
  rintro e w2 ⟨rfl, hb2⟩
  have B2 := below_next B1 hb2
  clear hb2 B1
  go_wp2_with fail
  with_reducible refine (OA.out _).mono ?_
  rintro e w3 ⟨rfl, he, hb3⟩
  have hge := B2.size
  obtain ⟨a, ha⟩ : ∃ o, w2.heap.size = o := ⟨_, rfl⟩
  have B3 := below_next B2 hb3
  rw [ha] at he hge
  rw [ha]
  have EA := Lib.hid he
  have has : a < w3.heap.size := Blk.lt he.1
  clear he hb3 B2 ha
  go_wp2_with fail
  with_reducible refine (OB.out _).mono ?_
  rintro e w4 ⟨rfl, he, hb4⟩
  obtain ⟨b, hbb⟩ : ∃ o, w3.heap.size = o := ⟨_, rfl⟩
  have B4 := below_next B3 hb4
  have EA4 := Lib.hid (EA.out.below hb4)
  rw [hbb] at he has
  rw [hbb]
  have EB4 := Lib.hid he
  clear he hb4 B3 hbb EA
  have HB4 := Lib.hid B4
  clear B4
  go_wp2_with fail
  go_loopg [9] n (fun gk ix wr => ∃ i : Nat, i + gk = n ∧ ix = .int .i64 i ∧ EyeAt wr a (rest K N gk i) false ∧ EyeAt wr b (rest K N gk i ++ bh) false ∧ Below w.heap.size w wr)
  case atStart => exact ⟨0, by omega, rfl, by rw [← HSr.out]; exact EA4.out, by rw [← HSr.out]; exact EB4.out, HB4.out⟩
  case round =>
    obtain ⟨i, hi, rfl, hEA, hEB, hB⟩ := hrel
    clear EA4 EB4 HB4 OA OB WR
    have EA := Lib.hid hEA
    have EB := Lib.hid hEB
    have HB := Lib.hid hB
    clear hEA hEB hB
    by_cases hlt : i < n
    · obtain ⟨gm, rfl⟩ : ∃ x, gk = x + 1 := ⟨gk - 1, by omega⟩
      obtain ⟨bA, off, rfl, hbA⟩ := HA.out (by omega)
      have ck0 := HC0.out _ _ rfl i hlt
      have ck1 := HC1.out _ _ rfl i hlt
      have cw0 : wr.cell? ⟨bA, off + i * 2, none⟩ = some (.int .u8 (K i)) := (HB.out.cell (p := ⟨bA, off + i * 2, none⟩) hbA).trans ck0
      have cw1 : wr.cell? ⟨bA, off + i * 2 + 1, none⟩ = some (.int .u64 (N i)) := by rw [Nat.add_assoc]; exact (HB.out.cell (p := ⟨bA, off + (i * 2 + 1), none⟩) hbA).trans ck1
      obtain ⟨k0, k1⟩ := HK.out i hlt
      have RA := read_back (K i) (N i) (rest K N gm (i + 1)) (HN.out i hlt) k0
      have RB := read_back (K i) (N i) (rest K N gm (i + 1) ++ bh) (HN.out i hlt) k0
      rw [← List.append_assoc] at RB
      have hra := Lib.hid (fun w f h => read_any a (K i) (N i) (rest K N (gm + 1) i) f w h k0 k1 (HN.out i hlt))
      have hrb := Lib.hid (fun w f h => read_any b (K i) (N i) (rest K N (gm + 1) i ++ bh) f w h k0 k1 (HN.out i hlt))
      have RA := Lib.hid RA
      have RB := Lib.hid RB
      obtain ⟨T, hT⟩ : ∃ T, rest K N gm (i + 1) = T := ⟨_, rfl⟩
      have HT := Lib.hid hT
      clear hT
      go_wp2_with fail
      with_reducible refine (hra.out _ _ EA.out).mono ?_
      rw [show rest K N (gm + 1) i = thingB (K i) (N i) ++ rest K N gm (i + 1) from rfl, RA.out.1, RA.out.2.1, RA.out.2.2, HT.out]
      rintro e w5 ⟨rfl, hp⟩
      have EA5 := Lib.hid hp.1
      have EB5 := Lib.hid (EB.out.fr hp.2 (by omega))
      have HB5 := Lib.hid (hp.old HB.out hge)
      have dw0 : w5.cell? ⟨bA, off + i * 2, none⟩ = some (.int .u8 (K i)) := (HB5.out.cell (p := ⟨bA, off + i * 2, none⟩) hbA).trans ck0
      have dw1 : w5.cell? ⟨bA, off + i * 2 + 1, none⟩ = some (.int .u64 (N i)) := by rw [Nat.add_assoc]; exact (HB5.out.cell (p := ⟨bA, off + (i * 2 + 1), none⟩) hbA).trans ck1
      clear hp cw0 cw1
      go_wp2_with fail
      with_reducible refine (hrb.out _ _ EB5.out).mono ?_
      rw [show rest K N (gm + 1) i ++ bh = thingB (K i) (N i) ++ rest K N gm (i + 1) ++ bh from rfl, RB.out.1, RB.out.2.1, RB.out.2.2, HT.out]
      rintro e w6 ⟨rfl, hp⟩
      have EB6 := Lib.hid hp.1
      have EA6 := Lib.hid (EA5.out.fr hp.2 (by omega))
      have HB6 := Lib.hid (hp.old HB5.out (by omega))
      clear hp dw0 dw1 ck0 ck1
      go_wp2_with fail
      with_reducible refine (eyeFailed a _ _ _ EA6.out).mono ?_
      rintro e w7 ⟨rfl, rfl⟩
      go_wp2_with fail
      with_reducible refine (eyeFailed b _ _ _ EB6.out).mono ?_
      rintro e w7 ⟨rfl, rfl⟩
      go_wp2_with fail
      with_reducible refine (eyeLeft a _ _ _ EA6.out).mono ?_
      rintro e w7 ⟨rfl, rfl⟩
      have hTl : T.length ≤ 4000 := by have := rest_len K N n HN.out gm (i + 1) (by omega); rw [HT.out] at this; omega
      have hl : ((T ++ bh).length : Int) = (T.length : Int) + (bh.length : Int) := by rw [List.length_append]; omega
      go_wp2_with fail
      with_reducible refine (eyeLeft b _ _ _ EB6.out).mono ?_
      rw [hl]
      rintro e w7 ⟨rfl, rfl⟩
      go_wp2_with fail
      go_roundg gm
      case rel => exact ⟨i + 1, by omega, by go_num, by rw [HT.out]; exact EA6.out, by rw [HT.out]; exact EB6.out, HB6.out⟩
      case measure => omega
    · obtain rfl : gk = 0 := by omega
      have EA7 : Hid (EyeAt wr a [] false) := EA.out
      have EB7 : Hid (EyeAt wr b bh false) := EB.out
      have z0 : endE [] false = 0 := rfl
      clear EA EB HC0 HC1 HA HK
      by_cases h0 : bh = []
      · subst h0
        go_wp2_with fail
        with_reducible refine (eyeEnd a _ _ _ EA7.out).mono ?_
        rw [z0]
        rintro e w7 ⟨rfl, rfl⟩
        go_wp2_with fail
        with_reducible refine (eyeLeft a _ _ _ EA7.out).mono ?_
        rintro e w7 ⟨rfl, rfl⟩
        go_wp2_with fail
        with_reducible refine (eyeLeft b _ _ _ EB7.out).mono ?_
        rintro e w7 ⟨rfl, rfl⟩
        go_wp2_with fail
        with_reducible refine (eyeEnd b _ _ _ EB7.out).mono ?_
        rw [z0]
        rintro e w7 ⟨rfl, rfl⟩
        go_wp2_with fail
        go_ret
        exact ⟨rfl, HB.out⟩
      · have z1 : endE bh false = 140 := by unfold endE; cases bh with | nil => exact absurd rfl h0 | cons x t => rfl
        have hp : 0 < bh.length := List.length_pos_iff.2 h0
        have z2 : ((bh.length : Int) == 0) = false := beq_eq_false_iff_ne.2 (by omega)
        clear h0
        go_wp2_with fail
        with_reducible refine (eyeEnd a _ _ _ EA7.out).mono ?_
        rw [z0]
        rintro e w7 ⟨rfl, rfl⟩
        go_wp2_with fail
        with_reducible refine (eyeLeft a _ _ _ EA7.out).mono ?_
        rintro e w7 ⟨rfl, rfl⟩
        go_wp2_with fail
        with_reducible refine (eyeLeft b _ _ _ EB7.out).mono ?_
        rintro e w7 ⟨rfl, rfl⟩
        go_wp2_with fail
        with_reducible refine (eyeEnd b _ _ _ EB7.out).mono ?_
        rw [z1]
        rintro e w7 ⟨rfl, rfl⟩
        go_wp2_with fail
        go_ret
        exact ⟨by simp, HB.out⟩

theorem octetBack_walk (w : World) (A : Option Addr) (n c : Nat) (K : Nat → Int) (fK : ∀ i, i < n → (Lit.int .u8 (K i)).wf = true) (F : Nat → Int) (fF : ∀ i, i < n → (Lit.int .u64 (F i)).wf = true)
    (hl : n ≤ c) (hm : c ≤ maxLen) (hA : 0 < n → ∃ b off, A = some ⟨b, off, none⟩ ∧ b < w.heap.size) (hC0 : ∀ b off, A = some ⟨b, off, none⟩ → ∀ i, i < n → w.cell? ⟨b, off + (i * 2 + 0), none⟩ = some (.int .u8 (K i)))
    (hC1 : ∀ b off, A = some ⟨b, off, none⟩ → ∀ i, i < n → w.cell? ⟨b, off + (i * 2 + 1), none⟩ = some (.int .u64 (F i))) (s : ByteArray) (fs : s.size ≤ 9223372036854775807) :
    Calls Try.prog 6 #[.slice A n c, .string s] w fun e w' => e = .returned (.bool true) ∧ Below w.heap.size w w' := by
  obtain ⟨l, hb, rfl, hsl⟩ := bs_of s
  exact octetBack_at A n c K F l w (Nat.le_trans hl hm) hA (fun i hi => byte_of_wf (fK i hi)) (fun i hi => word_of_wf (fF i hi)) hb (by omega) hC0 hC1

end Go.Proofs.Ytdlpnhplldnlbaa
