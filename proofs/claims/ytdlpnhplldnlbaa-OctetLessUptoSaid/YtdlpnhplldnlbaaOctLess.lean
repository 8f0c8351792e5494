/-
  The walk of the law OctetLess: fewer bytes make the eye fail. What is written of the things has room where they are not too many.
-/
import Derived.Test.YtdlpnhplldnlbaaProg
import Derived.Test.YtdlpnhplldnlbaaOctBack
namespace Go.Proofs.Ytdlpnhplldnlbaa
set_option linter.unusedVariables false
set_option linter.unusedSimpArgs false
set_option maxRecDepth 100000
open Go.RowKit

theorem bs_take' (l : List Nat) (j : Nat) (h : j ≤ l.length) : (bs l).extract 0 j = bs (l.take j) := by
  apply ByteArray.ext
  apply Array.toList_inj.1
  rw [Lib.extract_data, bs_data, bs_data]
  simp [List.map_take]
theorem num_prefix {L Q : List Nat} {v : Nat} (hv : v < 18446744073709551616) (h : L ++ Q = numB v) (hQ : Q ≠ []) : decB 0 L = none := by
  cases hd : decB 0 L with
  | none => rfl
  | some p =>
    exfalso
    obtain ⟨m, t⟩ := p
    have hb : Bytes L := fun x hx => numB_byte v x (by rw [← h]; exact List.mem_append_left _ hx)
    obtain ⟨h1, h2⟩ := decB_only hb hd
    have e1 := decB_back [] hv
    rw [List.append_nil, ← h, h1, List.append_assoc, decB_back (t ++ Q) h2] at e1
    simp at e1
    exact hQ e1.2.2
theorem less_dead (k : Int) : readL k [] = [] ∧ readF k [] true = true := by
  unfold readL readF
  constructor <;> (repeat' split) <;> rfl
theorem less_step {k n : Int} {L R T : List Nat} (hn : Word n) (k0 : 0 ≤ k) (h : L ++ R = thingB k n ++ T) (hR : R ≠ []) :
    (readF k L false = true ∧ readL k L = []) ∨ (readF k L false = false ∧ ∃ R', readL k L ++ R' = T ∧ R' ≠ []) := by
  rcases List.append_eq_append_iff.1 h with ⟨Q, h1, h2⟩ | ⟨L', h1, h2⟩
  · by_cases hQ : Q = []
    · subst hQ
      rw [List.append_nil] at h1
      rw [List.nil_append] at h2
      right
      have := read_back k n [] hn k0
      rw [List.append_nil, h1] at this
      exact ⟨this.2.2, R, by rw [this.2.1, h2]; rfl, hR⟩
    · left
      obtain ⟨n0, n1⟩ := hn
      rcases (show k % 4 = 0 ∨ k % 4 = 1 ∨ k % 4 = 2 ∨ k % 4 = 3 by omega) with hk | hk | hk | hk
      · rw [thingB0 hk] at h1
        have hL : L = [] := by
          cases L with
          | nil => rfl
          | cons x t => exfalso; have e := congrArg List.length h1; rw [List.length_append] at e; have e2 := List.length_pos_iff.2 hQ; simp only [List.length_cons, List.length_nil] at e; omega
        subst hL
        unfold readF readL; rw [if_pos hk, if_pos hk]; exact ⟨rfl, rfl⟩
      · rw [thingB1 hk] at h1
        obtain ⟨a, b, c⟩ := num_none (num_prefix (by omega) h1.symm hQ)
        unfold readF readL; rw [if_neg (by omega), if_pos hk, if_neg (by omega), if_pos hk]; exact ⟨c, b⟩
      · rw [thingB2 hk] at h1
        obtain ⟨i0, i1⟩ := i64_range n
        obtain ⟨z0, z1⟩ := zz_word i0 i1
        obtain ⟨a, b, c⟩ := num_none (num_prefix (by omega) h1.symm hQ)
        unfold readF readL; rw [if_neg (by omega), if_neg (by omega), if_pos hk, if_neg (by omega), if_neg (by omega), if_pos hk]; exact ⟨c, b⟩
      · rw [thingB3 hk] at h1
        have hL : L = [] := by
          cases L with
          | nil => rfl
          | cons x t => exfalso; have e := congrArg List.length h1; rw [List.length_append] at e; have e2 := List.length_pos_iff.2 hQ; simp only [List.length_cons, List.length_nil] at e; omega
        subst hL
        unfold readF readL; rw [if_neg (by omega), if_neg (by omega), if_neg (by omega), if_neg (by omega), if_neg (by omega), if_neg (by omega)]; exact ⟨rfl, rfl⟩
  · right
    have := read_back k n L' hn k0
    rw [← h1] at this
    exact ⟨this.2.2, R, by rw [this.2.1, h2], hR⟩

/-- The eye has failed, or something is still missing. -/
def LessAt (T L : List Nat) (F : Bool) : Prop := (F = true ∧ L = []) ∨ (F = false ∧ ∃ R, L ++ R = T ∧ R ≠ [])
theorem LessAt.step {k n : Int} {L T : List Nat} {F : Bool} (hn : Word n) (k0 : 0 ≤ k) (h : LessAt (thingB k n ++ T) L F) : LessAt T (readL k L) (readF k L F) := by
  rcases h with ⟨rfl, rfl⟩ | ⟨rfl, R, h1, h2⟩
  · obtain ⟨a, b⟩ := less_dead k
    exact .inl ⟨b, a⟩
  · rcases less_step hn k0 h1 h2 with ⟨a, b⟩ | ⟨a, R', b, c⟩
    · exact .inl ⟨a, b⟩
    · exact .inr ⟨a, R', b, c⟩
theorem LessAt.ends {L : List Nat} {F : Bool} (h : LessAt [] L F) : F = true ∧ L = [] := by
  rcases h with h | ⟨_, R, h1, h2⟩
  · exact h
  · exact absurd (List.append_eq_nil_iff.1 h1).2 h2

set_option maxHeartbeats 4000000 in
theorem octetLess_at (A : Option Addr) (n c : Nat) (K N : Nat → Int) (sm : Int) (w : World) (hsm : n ≤ 1048576) (hA : 0 < n → ∃ b off, A = some ⟨b, off, none⟩ ∧ b < w.heap.size)
    (hK : ∀ i, i < n → 0 ≤ K i ∧ K i ≤ 255) (hN : ∀ i, i < n → Word (N i))
    (hC0 : ∀ b off, A = some ⟨b, off, none⟩ → ∀ i, i < n → w.cell? ⟨b, off + (i * 2 + 0), none⟩ = some (.int .u8 (K i))) (hC1 : ∀ b off, A = some ⟨b, off, none⟩ → ∀ i, i < n → w.cell? ⟨b, off + (i * 2 + 1), none⟩ = some (.int .u64 (N i))) :
    Calls Try.prog 8 #[.slice A n c, .int .i64 sm] w fun e w' => e = .returned (.bool true) ∧ Below w.heap.size w w' := by
  have AW := Lib.hid (fun w => octAwake w)
  have hul := upto_len K N n hN n (Nat.le_refl _)
  obtain ⟨S, hSS⟩ : ∃ S, upto K N n = S := ⟨_, rfl⟩
  have hSb : Bytes S := hSS ▸ upto_bytes K N n
  have hSr : S = rest K N n 0 := by rw [← hSS]; exact upto_all K N n
  rw [hSS] at hul
  have WR0 : ∀ W, Below w.heap.size w W → Calls Try.prog 35 #[.slice A n c] W fun e w' => e = .returned (.tuple #[.string (if S.length ≤ 4096 then bs S else ⟨#[]⟩), .bool (decide (S.length ≤ 4096))]) ∧ Below W.heap.size W w' := by
    intro W hW
    have := written_any A n c K N W (by omega) (fun h => by obtain ⟨b, off, e, hb⟩ := hA h; exact ⟨b, off, e, Nat.lt_of_lt_of_le hb hW.size⟩) hK hN
      (fun b off e i hi => by obtain ⟨b', off', e', hb'⟩ := hA (by omega); rw [e] at e'; injection e' with e'; injection e' with e1 e2; subst e1 e2; exact (hW.cell (p := ⟨b, off + (i * 2 + 0), none⟩) hb').trans (hC0 b off e i hi))
      (fun b off e i hi => by obtain ⟨b', off', e', hb'⟩ := hA (by omega); rw [e] at e'; injection e' with e'; injection e' with e1 e2; subst e1 e2; exact (hW.cell (p := ⟨b, off + (i * 2 + 1), none⟩) hb').trans (hC1 b off e i hi))
    rw [hSS] at this
    exact this
  have HK := Lib.hid hK
  have HN := Lib.hid hN
  have HC0 := Lib.hid hC0
  have HC1 := Lib.hid hC1
  have HA := Lib.hid hA
  clear hK hN hC0 hC1 hA hSS
  by_cases hbig : 100 < n
  · obtain ⟨X, hX⟩ : ∃ X, (if S.length ≤ 4096 then bs S else ⟨#[]⟩) = X := ⟨_, rfl⟩
    obtain ⟨Y, hY⟩ : ∃ Y, decide (S.length ≤ 4096) = Y := ⟨_, rfl⟩
    rw [hX, hY] at WR0
    have WR := Lib.hid WR0
    clear WR0 hX hY hSr hSb
    go_enter Try.func8, Try.ntmps8
    go_wp2_with fail
    with_reducible refine (AW.out _).mono ?_
    rintro e w1 ⟨rfl, hb1⟩
    have B1 : Below w.heap.size w w1 := by first | with_reducible exact hb1 | exact Below.trans (by go_grown) (hb1.mono (by simp only [World.size_alloc]; omega))
    clear hb1
    go_wp2_with fail
    with_reducible refine (WR.out _ B1).mono ?_
    rintro e w2 ⟨rfl, hb2⟩
    have B2 := below_next B1 hb2
    clear hb2 B1
    go_wp2_with fail
    go_ret
    exact ⟨rfl, B2⟩
  rw [if_pos (by omega), decide_eq_true (show S.length ≤ 4096 by omega)] at WR0
  have WR := Lib.hid WR0
  have hsz := bs_size S
  clear WR0
  by_cases h0 : S.length = 0
  · have z1 : ((S.length : Int) == 0) = true := beq_iff_eq.2 (by omega)
    clear hSr hSb h0
    go_enter Try.func8, Try.ntmps8
    go_wp2_with fail
    with_reducible refine (AW.out _).mono ?_
    rintro e w1 ⟨rfl, hb1⟩
    have B1 : Below w.heap.size w w1 := by first | with_reducible exact hb1 | exact Below.trans (by go_grown) (hb1.mono (by simp only [World.size_alloc]; omega))
    clear hb1
    go_wp2_with fail
    with_reducible refine (WR.out _ B1).mono ?_
    rintro e w2 ⟨rfl, hb2⟩
    have B2 := below_next B1 hb2
    clear hb2 B1
    go_wp2_with fail
    go_ret
    exact ⟨rfl, B2⟩
  have z1 : ((S.length : Int) == 0) = false := beq_eq_false_iff_ne.2 (by omega)
  obtain ⟨q, hq⟩ : ∃ q, IntKind.u64.wrap sm = q := ⟨_, rfl⟩
  have hq0 : 0 ≤ q ∧ q < 18446744073709551616 := by rw [← hq, IntKind.wrap_u64]; omega
  obtain ⟨q0, q1⟩ := hq0
  have hlp : (0 : Int) < (S.length : Int) := by omega
  have m0 := Int.emod_nonneg q (show (S.length : Int) ≠ 0 by omega)
  have m1 := Int.emod_lt_of_pos q hlp
  obtain ⟨m, hm⟩ : ∃ m : Nat, q % (S.length : Int) = (m : Int) := ⟨(q % (S.length : Int)).toNat, by omega⟩
  have hmlt : m < S.length := by omega
  have cut := bs_take' S m (by omega)
  obtain ⟨P, hP⟩ : ∃ P, S.take m = P := ⟨_, rfl⟩
  rw [hP] at cut
  have hPb : Bytes P := fun x hx => hSb x (List.mem_of_mem_take (by rw [hP]; exact hx))
  have L0 : Hid (LessAt (rest K N n 0) P false) := by
    refine .inr ⟨rfl, S.drop m, ?_, ?_⟩
    · rw [← hSr, ← hP, List.take_append_drop]
    · intro e
      have := congrArg List.length e
      rw [List.length_drop] at this
      simp at this
      omega
  have OA := Lib.hid (fun w => eyeOpen P w hPb)
  have HH := Lib.hid (And.intro hSr hP)
  clear hSr hP hPb hSb h0 m0 m1
  go_enter Try.func8, Try.ntmps8
  go_wp2_with fail
  with_reducible refine (AW.out _).mono ?_
  rintro e w1 ⟨rfl, hb1⟩
  have B1 : Below w.heap.size w w1 := by first | with_reducible exact hb1 | exact Below.trans (by go_grown) (hb1.mono (by simp only [World.size_alloc]; omega))
  clear hb1
  go_wp2_with fail
  with_reducible refine (WR.out _ B1).mono ?_
  rintro e w2 ⟨rfl, hb2⟩
  have B2 := below_next B1 hb2
  clear hb2 B1
  go_wp2_with fail
  with_reducible refine (OA.out _).mono ?_
  rintro e w3 ⟨rfl, he, hb3⟩
  have hge := B2.size
  obtain ⟨ey, hey⟩ : ∃ o, w2.heap.size = o := ⟨_, rfl⟩
  have B3 := below_next B2 hb3
  rw [hey] at he hge
  rw [hey]
  have E3 := Lib.hid he
  have HB3 := Lib.hid B3
  clear he hb3 B2 hey B3 hm hq cut
  go_wp2_with fail
  go_loopg [8] n (fun gk ix wr => ∃ (i : Nat) (L : List Nat) (F : Bool), i + gk = n ∧ ix = .int .i64 i ∧ LessAt (rest K N gk i) L F ∧ EyeAt wr ey L F ∧ Below w.heap.size w wr)
  case atStart => exact ⟨0, P, false, by omega, rfl, L0.out, E3.out, HB3.out⟩
  case round =>
    obtain ⟨i, L, F, hi, rfl, hL, hE, hB⟩ := hrel
    have HL := Lib.hid hL
    have E := Lib.hid hE
    have HB := Lib.hid hB
    clear hL hE hB E3 HB3 OA WR L0
    by_cases hlt : i < n
    · obtain ⟨gm, rfl⟩ : ∃ x, gk = x + 1 := ⟨gk - 1, by omega⟩
      obtain ⟨bA, off, rfl, hbA⟩ := HA.out (by omega)
      have ck0 := HC0.out _ _ rfl i hlt
      have ck1 := HC1.out _ _ rfl i hlt
      have cw0 : wr.cell? ⟨bA, off + i * 2, none⟩ = some (.int .u8 (K i)) := (HB.out.cell (p := ⟨bA, off + i * 2, none⟩) hbA).trans ck0
      have cw1 : wr.cell? ⟨bA, off + i * 2 + 1, none⟩ = some (.int .u64 (N i)) := by rw [Nat.add_assoc]; exact (HB.out.cell (p := ⟨bA, off + (i * 2 + 1), none⟩) hbA).trans ck1
      obtain ⟨k0, k1⟩ := HK.out i hlt
      have LN : Hid (LessAt (rest K N gm (i + 1)) (readL (K i) L) (readF (K i) L F)) := LessAt.step (HN.out i hlt) k0 HL.out
      have RD := Lib.hid (fun w h => read_any ey (K i) (N i) L F w h k0 k1 (HN.out i hlt))
      clear ck0 ck1 HC0 HC1 HA HK
      go_wp2_with fail
      with_reducible refine (RD.out _ E.out).mono ?_
      rintro e w5 ⟨rfl, hp⟩
      have E5 := Lib.hid hp.1
      have HB5 := Lib.hid (hp.old HB.out hge)
      clear hp cw0 cw1
      go_wp2_with fail
      go_roundg gm
      case rel => exact ⟨i + 1, _, _, by omega, by go_num, LN.out, E5.out, HB5.out⟩
      case measure => omega
    · obtain rfl : gk = 0 := by omega
      obtain ⟨rfl, rfl⟩ := LessAt.ends HL.out
      clear HC0 HC1 HA HK HL
      have z2 : endE [] true = 140 := rfl
      go_wp2_with fail
      with_reducible refine (eyeFailed ey _ _ _ E.out).mono ?_
      rintro e wx ⟨rfl, rfl⟩
      go_wp2_with fail
      with_reducible refine (eyeEnd ey _ _ _ E.out).mono ?_
      rintro e wx ⟨rfl, rfl⟩
      go_wp2_with fail
      with_reducible refine (eyeLeft ey _ _ _ E.out).mono ?_
      rintro e wx ⟨rfl, rfl⟩
      go_wp2_with fail
      go_ret
      exact ⟨by simp, HB.out⟩

theorem octetLess_walk (w : World) (A : Option Addr) (n c : Nat) (K : Nat → Int) (fK : ∀ i, i < n → (Lit.int .u8 (K i)).wf = true) (F : Nat → Int) (fF : ∀ i, i < n → (Lit.int .u64 (F i)).wf = true)
    (hl : n ≤ c) (hm : c ≤ maxLen) (hA : 0 < n → ∃ b off, A = some ⟨b, off, none⟩ ∧ b < w.heap.size) (hC0 : ∀ b off, A = some ⟨b, off, none⟩ → ∀ i, i < n → w.cell? ⟨b, off + (i * 2 + 0), none⟩ = some (.int .u8 (K i)))
    (hC1 : ∀ b off, A = some ⟨b, off, none⟩ → ∀ i, i < n → w.cell? ⟨b, off + (i * 2 + 1), none⟩ = some (.int .u64 (F i))) (a : Int) (fa : (Lit.int .i64 a).wf = true) (hsm : n ≤ 1048576) :
    Calls Try.prog 8 #[.slice A n c, .int .i64 a] w fun e w' => e = .returned (.bool true) ∧ Below w.heap.size w w' :=
  octetLess_at A n c K F a w hsm hA (fun i hi => byte_of_wf (fK i hi)) (fun i hi => word_of_wf (fF i hi)) hC0 hC1

end Go.Proofs.Ytdlpnhplldnlbaa
