/-
  The walk of the law OctetOne: what is read, written, is just the bytes that were read.
-/
import Derived.Test.YtdlpnhplldnlbaaProg
import Derived.Test.YtdlpnhplldnlbaaOctAwake
import Derived.Test.YtdlpnhplldnlbaaOctG
namespace Go.Proofs.Ytdlpnhplldnlbaa
set_option linter.unusedVariables false
set_option linter.unusedSimpArgs false
set_option maxRecDepth 100000
open Go.RowKit

theorem PenAt.row_ne {w : World} {B g : Nat} {r : Option Nat} {l : List Nat} (h : PenAt w B g r l) {b : Nat} {t : TypeId} {cs : Array Value} (k : Blk w b t cs) (hne : 5 ≠ t) : r ≠ some b := by
  obtain ⟨v, hb, ho, hr, _⟩ := h
  rintro rfl
  rcases ho.2 with ⟨rfl, _⟩ | ⟨g', cap, cur, rfl, _, hh, _⟩
  · simp [Value.ownBlock] at hr
  · have : g' = b := by simpa [Value.ownBlock] using hr
    subst this
    exact Blk.ne_of_type (t := 5) hh k hne rfl
theorem PenAt.g_ne {w : World} {B g : Nat} {r : Option Nat} {l : List Nat} (h : PenAt w B g r l) {b : Nat} {t : TypeId} {cs : Array Value} (k : Blk w b t cs) (hne : 28 ≠ t) : g ≠ b := by
  obtain ⟨v, hb, _⟩ := h
  exact Blk.ne_of_type hb k hne
theorem PenAt.eye {w w1 : World} {B g e : Nat} {r : Option Nat} {l m m1 : List Nat} {f f1 : Bool} (h : PenAt w B g r l) (he : EyeAt w e m f) (k : EyeTo e m1 f1 w w1) : PenAt w1 B g r l :=
  h.fr k.2 (h.g_ne he.1 (by decide)) (fun q hq e' => h.row_ne he.1 (by decide) (by rw [hq, e']))
theorem EyeAt.pen {w w1 : World} {B g e : Nat} {r : Option Nat} {l l1 m : List Nat} {f : Bool} (he : EyeAt w e m f) (h : PenAt w B g r l) (k : PenTo B g r l1 w w1) : EyeAt w1 e m f := by
  obtain ⟨r1, _, hf, _⟩ := k
  exact he.fr hf (fun hs => hs.elim (fun e' => h.g_ne he.1 (by decide) e'.symm) (fun e' => h.row_ne he.1 (by decide) e'))
theorem blk_eye {w w1 : World} {b e : Nat} {t : TypeId} {cs : Array Value} {m m1 : List Nat} {f f1 : Bool} (hb : Blk w b t cs) (he : EyeAt w e m f) (hne : t ≠ 92) (k : EyeTo e m1 f1 w w1) : Blk w1 b t cs :=
  hb.fr k.2 (Blk.ne_of_type hb he.1 hne)

/-! ### An eye that has failed -/
theorem dead_num (g : Nat) (w : World) (h : EyeAt w g [] true) : Calls Try.prog 24 #[.pointer (some ⟨g, 0, none⟩)] w fun e w' => e = .returned (.int .u64 0) ∧ EyeTo g [] true w w' := eye_bad g [] true w h rfl
theorem dead_byte (g : Nat) (w : World) (h : EyeAt w g [] true) : Calls Try.prog 22 #[.pointer (some ⟨g, 0, none⟩)] w fun e w' => e = .returned (.int .u8 0) ∧ EyeTo g [] true w w' := eyeByteEnd g true w h
theorem dead_flag (g : Nat) (w : World) (h : EyeAt w g [] true) : Calls Try.prog 28 #[.pointer (some ⟨g, 0, none⟩)] w fun e w' => e = .returned (.bool false) ∧ EyeTo g [] true w w' := eyeFlag g [] true w h
theorem dead_int (g : Nat) (w : World) (h : EyeAt w g [] true) : Calls Try.prog 26 #[.pointer (some ⟨g, 0, none⟩)] w fun e w' => e = .returned (.int .i64 0) ∧ EyeTo g [] true w w' := eyeInt g [] true w h
theorem eye_ibad (g : Nat) (l : List Nat) (w : World) (h : EyeAt w g l false) (hd : decB 0 l = none) : Calls Try.prog 26 #[.pointer (some ⟨g, 0, none⟩)] w fun e w' => e = .returned (.int .i64 0) ∧ EyeTo g [] true w w' := by
  obtain ⟨a, b, c⟩ := num_none hd
  have := eyeInt g l false w h
  rwa [a, b, c] at this
theorem flag_end (g : Nat) (w : World) (h : EyeAt w g [] false) : Calls Try.prog 28 #[.pointer (some ⟨g, 0, none⟩)] w fun e w' => e = .returned (.bool false) ∧ EyeTo g [] true w w' := eyeFlag g [] false w h
theorem flag_bad (g b : Nat) (l : List Nat) (w : World) (hb : 1 < b) (h : EyeAt w g (b :: l) false) : Calls Try.prog 28 #[.pointer (some ⟨g, 0, none⟩)] w fun e w' => e = .returned (.bool false) ∧ EyeTo g [] true w w' := by
  have := eyeFlag g (b :: l) false w h
  have e1 : flagR (b :: l) = false := by unfold flagR byteR; simp; omega
  have e2 : flagL (b :: l) = [] := by unfold flagL byteR; rw [if_pos hb]
  have e3 : flagF (b :: l) false = true := by unfold flagF byteR; rw [if_pos hb]
  rwa [e1, e2, e3] at this
theorem flag_zero (g : Nat) (l : List Nat) (w : World) (h : EyeAt w g (0 :: l) false) : Calls Try.prog 28 #[.pointer (some ⟨g, 0, none⟩)] w fun e w' => e = .returned (.bool false) ∧ EyeTo g l false w w' := eyeFlag g (0 :: l) false w h
theorem flag_one (g : Nat) (l : List Nat) (w : World) (h : EyeAt w g (1 :: l) false) : Calls Try.prog 28 #[.pointer (some ⟨g, 0, none⟩)] w fun e w' => e = .returned (.bool true) ∧ EyeTo g l false w w' := eyeFlag g (1 :: l) false w h
theorem unz_range {m : Nat} (h : m < 18446744073709551616) : -9223372036854775808 ≤ unz m ∧ unz m ≤ 9223372036854775807 ∧ (zz (unz m)).toNat = m := by
  unfold unz zz; split <;> split <;> omega
theorem bs_take (l m : List Nat) : (bs (l ++ m)).extract 0 l.length = bs l := by
  apply ByteArray.ext
  apply Array.toList_inj.1
  rw [Lib.extract_data, bs_data, bs_data]
  simp

set_option maxHeartbeats 8000000 in
theorem octetOne_at (S : List Nat) (A : Option Addr) (n c : Nat) (K N : Nat → Int) (w : World) (hm : n ≤ maxLen) (hA : 0 < n → ∃ b off, A = some ⟨b, off, none⟩ ∧ b < w.heap.size)
    (hK : ∀ i, i < n → 0 ≤ K i ∧ K i ≤ 255) (hN : ∀ i, i < n → Word (N i)) (hS : Bytes S) (hSl : S.length ≤ 9223372036854775807)
    (hC0 : ∀ b off, A = some ⟨b, off, none⟩ → ∀ i, i < n → w.cell? ⟨b, off + (i * 2 + 0), none⟩ = some (.int .u8 (K i))) (hC1 : ∀ b off, A = some ⟨b, off, none⟩ → ∀ i, i < n → w.cell? ⟨b, off + (i * 2 + 1), none⟩ = some (.int .u64 (N i))) :
    Calls Try.prog 7 #[.string (bs S), .slice A n c] w fun e w' => e = .returned (.bool true) ∧ Below w.heap.size w w' := by
  unfold maxLen at hm
  have AW := Lib.hid (fun w => octAwake w)
  have hsz := bs_size S
  by_cases h1 : 2000 < S.length
  · clear hA hK hN hC0 hC1
    go_enter Try.func7, Try.ntmps7
    go_wp2_with fail
    with_reducible refine (AW.out _).mono ?_
    rintro e w1 ⟨rfl, hb1⟩
    have B1 : Below w.heap.size w w1 := by first | with_reducible exact hb1 | exact Below.trans (by go_grown) (hb1.mono (by simp only [World.size_alloc]; omega))
    clear hb1
    go_wp2_with fail
    go_ret
    exact ⟨by simp, B1⟩
  by_cases h2 : 100 < n
  · clear hA hK hN hC0 hC1
    go_enter Try.func7, Try.ntmps7
    go_wp2_with fail
    with_reducible refine (AW.out _).mono ?_
    rintro e w1 ⟨rfl, hb1⟩
    have B1 : Below w.heap.size w w1 := by first | with_reducible exact hb1 | exact Below.trans (by go_grown) (hb1.mono (by simp only [World.size_alloc]; omega))
    clear hb1
    go_wp2_with fail
    go_ret
    exact ⟨by simp, B1⟩
  have h1 : S.length ≤ 2000 := by omega
  have h2 : n ≤ 100 := by omega
  clear hSl
  have HK := Lib.hid hK
  have HN := Lib.hid hN
  have HC0 := Lib.hid hC0
  have HC1 := Lib.hid hC1
  have HA := Lib.hid hA
  have OA := Lib.hid (fun w => eyeOpen S w hS)
  have HSb := Lib.hid hS
  clear hK hN hC0 hC1 hA hS
  go_enter Try.func7, Try.ntmps7
  go_wp2_with fail
  with_reducible refine (AW.out _).mono ?_
  rintro e w1 ⟨rfl, hb1⟩
  have B1 : Below w.heap.size w w1 := by first | with_reducible exact hb1 | exact Below.trans (by go_grown) (hb1.mono (by simp only [World.size_alloc]; omega))
  clear hb1
  go_wp2_with fail
  with_reducible refine (OA.out _).mono ?_
  rintro e w2 ⟨rfl, he, hb2⟩
  have hge := B1.size
  obtain ⟨ey, hey⟩ : ∃ o, w1.heap.size = o := ⟨_, rfl⟩
  have B2 := below_next B1 hb2
  rw [hey] at he hge
  rw [hey]
  have E2 := Lib.hid he
  have hes : ey < w2.heap.size := Blk.lt he.1
  clear he hb2 B1 hey
  go_wp2_with fail
  obtain ⟨g, hg⟩ : ∃ g, w2.heap.size = g := ⟨_, rfl⟩
  have P3 : Hid (PenAt (w2.alloc (.cells #[.slice none 0 0] 28)) g g none []) := ⟨.slice none 0 0, by rw [← hg]; exact Blk.new _ _ _, World.ownsRow_nil _ _ _ _, rfl, fun x hx => by cases hx⟩
  have B3 : Below w.heap.size w (w2.alloc (.cells #[.slice none 0 0] 28)) := below_next B2 ((Below.refl _ _).alloc (Nat.le_refl _) _)
  have E3 : Hid (EyeAt (w2.alloc (.cells #[.slice none 0 0] 28)) ey S false) := E2.out.below ((Below.refl _ _).alloc (Nat.le_refl _) _)
  have hgg : w.heap.size ≤ g := by omega
  have hgs : g + 1 ≤ (w2.alloc (.cells #[.slice none 0 0] 28)).heap.size := by simp [hg]
  rw [hg] at hes
  rw [hg]
  obtain ⟨w3, hw3⟩ : ∃ W0, (w2.alloc (.cells #[.slice none 0 0] 28)) = W0 := ⟨_, rfl⟩
  rw [hw3] at P3 B3 E3 hgs
  rw [hw3]
  have HB3 := Lib.hid B3
  clear hg hw3 B2 B3 E2
  go_loopg [7, 8] n (fun gk rd ix wr => ∃ (i : Nat) (pl R : List Nat) (r1 : Option Nat), i + gk = n ∧ ix = .int .i64 i ∧ rd = .int .i64 pl.length ∧ S = pl ++ R ∧ PenAt wr g g r1 pl ∧ EyeAt wr ey R false ∧ Below w.heap.size w wr ∧ g + 1 ≤ wr.heap.size)
  case atStart => exact ⟨0, [], S, none, by omega, rfl, rfl, rfl, P3.out, E3.out, HB3.out, hgs⟩
  case round =>
    obtain ⟨i, pl, R0, r1, hi, rfl, rfl, hSR, hP, hE, hB, hgs⟩ := hrel
    have P := Lib.hid hP
    have E := Lib.hid hE
    have HB := Lib.hid hB
    have HSR := Lib.hid hSR
    have hlen : pl.length + R0.length ≤ 2000 := by have := congrArg List.length hSR; rw [List.length_append] at this; omega
    have hRb : Hid (Bytes R0) := fun x hx => HSb.out x (by rw [hSR]; exact List.mem_append_right _ hx)
    clear hP hE hB hSR P3 E3 HB3 OA
    by_cases hlt : i < n
    · obtain ⟨bA, off, rfl, hbA⟩ := HA.out (by omega)
      have ck0 := HC0.out _ _ rfl i hlt
      have ck1 := HC1.out _ _ rfl i hlt
      have cw0 : wr.cell? ⟨bA, off + i * 2, none⟩ = some (.int .u8 (K i)) := (HB.out.cell (p := ⟨bA, off + i * 2, none⟩) hbA).trans ck0
      have cw1 : wr.cell? ⟨bA, off + i * 2 + 1, none⟩ = some (.int .u64 (N i)) := by rw [Nat.add_assoc]; exact (HB.out.cell (p := ⟨bA, off + (i * 2 + 1), none⟩) hbA).trans ck1
      obtain ⟨k0, k1⟩ := HK.out i hlt
      obtain ⟨k, hkk⟩ : ∃ x, K i = x := ⟨_, rfl⟩
      obtain ⟨x, hxx⟩ : ∃ x, N i = x := ⟨_, rfl⟩
      rw [hkk] at k0 k1 cw0
      rw [hxx] at cw1
      clear ck0 ck1 HC0 HC1 HA HK HN hkk hxx
      rcases (show k % 4 = 0 ∨ k % 4 = 1 ∨ k % 4 = 2 ∨ k % 4 = 3 by omega) with hk | hk | hk | hk
      · rcases R0 with _ | ⟨b, R⟩
        · have C := Lib.hid (fun w h => eyeByteEnd ey false w h)
          go_wp2_with fail
          obtain ⟨tb, htb⟩ : ∃ t, wr.heap.size = t := ⟨_, rfl⟩
          have T4 : Hid (Blk (wr.alloc (.cells #[.int .u8 k, .int .u64 x] 31)) tb 31 #[.int .u8 k, .int .u64 x]) := by rw [← htb]; exact Blk.new _ _ _
          have P4 : Hid (PenAt (wr.alloc (.cells #[.int .u8 k, .int .u64 x] 31)) g g r1 pl) := P.out.alloc _
          have E4 : Hid (EyeAt (wr.alloc (.cells #[.int .u8 k, .int .u64 x] 31)) ey _ false) := E.out.below ((Below.refl _ _).alloc (Nat.le_refl _) _)
          have HB4 : Hid (Below w.heap.size w (wr.alloc (.cells #[.int .u8 k, .int .u64 x] 31))) := below_next HB.out ((Below.refl _ _).alloc (Nat.le_refl _) _)
          have hs4 : g + 1 ≤ (wr.alloc (.cells #[.int .u8 k, .int .u64 x] 31)).heap.size := by simp; omega
          have htw : w.heap.size ≤ tb := by have := HB.out.size; omega
          obtain ⟨w4, hw4⟩ : ∃ W, (wr.alloc (.cells #[.int .u8 k, .int .u64 x] 31)) = W := ⟨_, rfl⟩
          rw [hw4] at T4 P4 E4 HB4 hs4
          rw [htb]
          clear cw0 cw1
          rw [hw4]
          have HW4 := Lib.hid hw4
          clear hw4
          have t0 : w4.cell? ⟨tb, 0, none⟩ = some (.int .u8 k) := T4.out.get 0 rfl
          have t1 : w4.cell? ⟨tb, 1, none⟩ = some (.int .u64 x) := T4.out.get 1 rfl
          have t2 := Blk.frozen T4.out 1
          go_wp2_with fail
          with_reducible refine (C.out _ E4.out).mono ?_
          rintro e w5 ⟨rfl, hq⟩
          have T5 := Lib.hid (blk_eye T4.out E4.out (by decide) hq)
          have P5 := Lib.hid (P4.out.eye E4.out hq)
          have E5 := Lib.hid hq.1
          have HB5 := Lib.hid (hq.old HB4.out hge)
          have hs5 : g + 1 ≤ w5.heap.size := by have := hq.2.size; omega
          clear hq t0 t1 t2
          have t0 : w5.cell? ⟨tb, 0, none⟩ = some (.int .u8 k) := T5.out.get 0 rfl
          have t1 : w5.cell? ⟨tb, 1, none⟩ = some (.int .u64 x) := T5.out.get 1 rfl
          have t2 := Blk.frozen T5.out 1
          go_wp2_with fail
          have T6 : Hid (Blk (w5.setCell ⟨tb, 1, none⟩ (.int .u64 0)) tb 31 #[.int .u8 k, .int .u64 0]) := Blk.put T5.out 1 _
          have F6 : Fr (fun q => q = tb) w5 (w5.setCell ⟨tb, 1, none⟩ (.int .u64 0)) := (Fr.refl (fun q => q = tb) w5).setCell (p := ⟨tb, 1, none⟩) (fun _ => rfl) _
          have P6 : Hid (PenAt (w5.setCell ⟨tb, 1, none⟩ (.int .u64 0)) g g r1 pl) := P5.out.fr F6 (P5.out.g_ne T5.out (by decide)) (fun q hq e' => P5.out.row_ne T5.out (by decide) (by rw [hq, e']))
          have E6 : Hid (EyeAt (w5.setCell ⟨tb, 1, none⟩ (.int .u64 0)) ey _ true) := E5.out.fr F6 (fun e' => Blk.ne_of_type E5.out.1 T5.out (by decide) e')
          have HB6 : Hid (Below w.heap.size w (w5.setCell ⟨tb, 1, none⟩ (.int .u64 0))) := HB5.out.trans (F6.below (B := w.heap.size) HB5.out.size (fun q hq e' => by omega))
          have hs6 : g + 1 ≤ ((w5.setCell ⟨tb, 1, none⟩ (.int .u64 0))).heap.size := by simp only [World.size_setCell]; omega
          clear F6 t0 t1 t2
          obtain ⟨w6, hw6⟩ : ∃ W, (w5.setCell ⟨tb, 1, none⟩ (.int .u64 0)) = W := ⟨_, rfl⟩
          rw [hw6] at T6 P6 E6 HB6 hs6
          rw [hw6]
          have HW6 := Lib.hid hw6
          clear hw6
          have t0 : w6.cell? ⟨tb, 0, none⟩ = some (.int .u8 k) := T6.out.get 0 rfl
          have t1 : w6.cell? ⟨tb, 1, none⟩ = some (.int .u64 0) := T6.out.get 1 rfl
          have t2 := Blk.frozen T6.out 1
          go_wp2_with fail
          with_reducible refine (eyeFailed ey _ _ _ E6.out).mono ?_
          rintro e wx ⟨rfl, rfl⟩
          go_wp2_with fail
          with_reducible refine (eyeLeft ey _ _ _ E6.out).mono ?_
          rintro e wx ⟨rfl, rfl⟩
          clear t0 t1 t2
          go_wp2_with fail
          with_reducible refine (dead_num ey _ E6.out).mono ?_
          rintro e w7 ⟨rfl, hq⟩
          have E7 := Lib.hid hq.1
          have HB7 := Lib.hid (hq.old HB6.out hge)
          clear hq
          go_wp2_with fail
          with_reducible refine (dead_byte ey _ E7.out).mono ?_
          rintro e w8 ⟨rfl, hq⟩
          have E8 := Lib.hid hq.1
          have HB8 := Lib.hid (hq.old HB7.out hge)
          clear hq
          go_wp2_with fail
          with_reducible refine (dead_flag ey _ E8.out).mono ?_
          rintro e w9 ⟨rfl, hq⟩
          have E9 := Lib.hid hq.1
          have HB9 := Lib.hid (hq.old HB8.out hge)
          clear hq
          go_wp2_with fail
          with_reducible refine (dead_int ey _ E9.out).mono ?_
          rintro e w10 ⟨rfl, hq⟩
          have E10 := Lib.hid hq.1
          have HB10 := Lib.hid (hq.old HB9.out hge)
          clear hq
          go_wp2_with fail
          with_reducible refine (eyeEnd ey _ _ _ E10.out).mono ?_
          rintro e wx ⟨rfl, rfl⟩
          have z1 : endE [] true = 140 := rfl
          go_wp2_with fail
          go_ret
          exact ⟨by simp, HB10.out⟩
        · have hb : b < 256 := hRb.out b (List.mem_cons_self ..)
          have C := Lib.hid (fun w h => eyeByteMore ey b R false w h)
          have WT : Hid (thingB k (b : Int) = [b]) := by unfold Hid; rw [thingB0 hk]; congr 1; omega
          have HS2 : Hid (S = (pl ++ [b]) ++ R) := by unfold Hid; rw [List.append_assoc]; exact HSR.out
          have WR := Lib.hid (fun w h hB => write_any g g k (b : Int) r1 pl w h k0 k1 ⟨by omega, by omega⟩ (by omega) hB)
          go_wp2_with fail
          obtain ⟨tb, htb⟩ : ∃ t, wr.heap.size = t := ⟨_, rfl⟩
          have T4 : Hid (Blk (wr.alloc (.cells #[.int .u8 k, .int .u64 x] 31)) tb 31 #[.int .u8 k, .int .u64 x]) := by rw [← htb]; exact Blk.new _ _ _
          have P4 : Hid (PenAt (wr.alloc (.cells #[.int .u8 k, .int .u64 x] 31)) g g r1 pl) := P.out.alloc _
          have E4 : Hid (EyeAt (wr.alloc (.cells #[.int .u8 k, .int .u64 x] 31)) ey _ false) := E.out.below ((Below.refl _ _).alloc (Nat.le_refl _) _)
          have HB4 : Hid (Below w.heap.size w (wr.alloc (.cells #[.int .u8 k, .int .u64 x] 31))) := below_next HB.out ((Below.refl _ _).alloc (Nat.le_refl _) _)
          have hs4 : g + 1 ≤ (wr.alloc (.cells #[.int .u8 k, .int .u64 x] 31)).heap.size := by simp; omega
          have htw : w.heap.size ≤ tb := by have := HB.out.size; omega
          obtain ⟨w4, hw4⟩ : ∃ W, (wr.alloc (.cells #[.int .u8 k, .int .u64 x] 31)) = W := ⟨_, rfl⟩
          rw [hw4] at T4 P4 E4 HB4 hs4
          rw [htb]
          clear cw0 cw1
          rw [hw4]
          have HW4 := Lib.hid hw4
          clear hw4
          have t0 : w4.cell? ⟨tb, 0, none⟩ = some (.int .u8 k) := T4.out.get 0 rfl
          have t1 : w4.cell? ⟨tb, 1, none⟩ = some (.int .u64 x) := T4.out.get 1 rfl
          have t2 := Blk.frozen T4.out 1
          go_wp2_with fail
          with_reducible refine (C.out _ E4.out).mono ?_
          rintro e w5 ⟨rfl, hq⟩
          have T5 := Lib.hid (blk_eye T4.out E4.out (by decide) hq)
          have P5 := Lib.hid (P4.out.eye E4.out hq)
          have E5 := Lib.hid hq.1
          have HB5 := Lib.hid (hq.old HB4.out hge)
          have hs5 : g + 1 ≤ w5.heap.size := by have := hq.2.size; omega
          clear hq t0 t1 t2
          have t0 : w5.cell? ⟨tb, 0, none⟩ = some (.int .u8 k) := T5.out.get 0 rfl
          have t1 : w5.cell? ⟨tb, 1, none⟩ = some (.int .u64 x) := T5.out.get 1 rfl
          have t2 := Blk.frozen T5.out 1
          go_wp2_with fail
          have T6 : Hid (Blk (w5.setCell ⟨tb, 1, none⟩ (.int .u64 (b : Int))) tb 31 #[.int .u8 k, .int .u64 (b : Int)]) := Blk.put T5.out 1 _
          have F6 : Fr (fun q => q = tb) w5 (w5.setCell ⟨tb, 1, none⟩ (.int .u64 (b : Int))) := (Fr.refl (fun q => q = tb) w5).setCell (p := ⟨tb, 1, none⟩) (fun _ => rfl) _
          have P6 : Hid (PenAt (w5.setCell ⟨tb, 1, none⟩ (.int .u64 (b : Int))) g g r1 pl) := P5.out.fr F6 (P5.out.g_ne T5.out (by decide)) (fun q hq e' => P5.out.row_ne T5.out (by decide) (by rw [hq, e']))
          have E6 : Hid (EyeAt (w5.setCell ⟨tb, 1, none⟩ (.int .u64 (b : Int))) ey _ false) := E5.out.fr F6 (fun e' => Blk.ne_of_type E5.out.1 T5.out (by decide) e')
          have HB6 : Hid (Below w.heap.size w (w5.setCell ⟨tb, 1, none⟩ (.int .u64 (b : Int)))) := HB5.out.trans (F6.below (B := w.heap.size) HB5.out.size (fun q hq e' => by omega))
          have hs6 : g + 1 ≤ ((w5.setCell ⟨tb, 1, none⟩ (.int .u64 (b : Int)))).heap.size := by simp only [World.size_setCell]; omega
          clear F6 t0 t1 t2
          obtain ⟨w6, hw6⟩ : ∃ W, (w5.setCell ⟨tb, 1, none⟩ (.int .u64 (b : Int))) = W := ⟨_, rfl⟩
          rw [hw6] at T6 P6 E6 HB6 hs6
          rw [hw6]
          have HW6 := Lib.hid hw6
          clear hw6
          have t0 : w6.cell? ⟨tb, 0, none⟩ = some (.int .u8 k) := T6.out.get 0 rfl
          have t1 : w6.cell? ⟨tb, 1, none⟩ = some (.int .u64 (b : Int)) := T6.out.get 1 rfl
          have t2 := Blk.frozen T6.out 1
          go_wp2_with fail
          with_reducible refine (eyeFailed ey _ _ _ E6.out).mono ?_
          rintro e wx ⟨rfl, rfl⟩
          go_wp2_with fail
          with_reducible refine (WR.out _ P6.out (by omega)).mono ?_
          rintro e w7 ⟨rfl, hp⟩
          have E7 := Lib.hid (E6.out.pen P6.out hp)
          have HB7 := Lib.hid (hp.old HB6.out P6.out hgg hgg)
          obtain ⟨r2, hp, hf, -⟩ := hp
          have hs7 : g + 1 ≤ w7.heap.size := by have := hf.size; omega
          rw [WT.out] at hp
          have PK := Lib.hid hp
          clear hp hf t0 t1 t2
          have cut := bs_take (pl ++ [b]) R
          rw [← HS2.out] at cut
          obtain ⟨PL, hPL⟩ : ∃ q, pl ++ [b] = q := ⟨_, rfl⟩
          rw [hPL] at cut PK
          have hlR : S.length = PL.length + R.length := by rw [HS2.out, hPL, List.length_append]
          have hd : (S.length : Int) - (R.length : Int) = (PL.length : Int) := by omega
          have u1 : ¬ (S.length : Int) < (PL.length : Int) := by omega
          have u2 : PL.length ≤ 4096 := by omega
          have HPL := Lib.hid hPL
          clear hPL hlR
          go_wp2_with fail
          with_reducible refine (eyeLeft ey _ _ _ E7.out).mono ?_
          rintro e wx ⟨rfl, rfl⟩
          go_wp2_with fail
          with_reducible refine (penDone g g r2 _ _ PK.out u2).mono ?_
          rintro e wx ⟨rfl, rfl⟩
          go_wp2_with fail
          go_roundg (gk - 1)
          case rel => exact ⟨i + 1, PL, R, r2, by omega, by go_num, rfl, by rw [← HPL.out]; exact HS2.out, PK.out, E7.out, HB7.out, hs7⟩
          case measure => omega
      · rcases hd : decB 0 R0 with _ | ⟨m, R⟩
        · have HD := Lib.hid hd
          clear hd
          have C := Lib.hid (fun w h => eye_bad ey R0 false w h HD.out)
          go_wp2_with fail
          obtain ⟨tb, htb⟩ : ∃ t, wr.heap.size = t := ⟨_, rfl⟩
          have T4 : Hid (Blk (wr.alloc (.cells #[.int .u8 k, .int .u64 x] 31)) tb 31 #[.int .u8 k, .int .u64 x]) := by rw [← htb]; exact Blk.new _ _ _
          have P4 : Hid (PenAt (wr.alloc (.cells #[.int .u8 k, .int .u64 x] 31)) g g r1 pl) := P.out.alloc _
          have E4 : Hid (EyeAt (wr.alloc (.cells #[.int .u8 k, .int .u64 x] 31)) ey _ false) := E.out.below ((Below.refl _ _).alloc (Nat.le_refl _) _)
          have HB4 : Hid (Below w.heap.size w (wr.alloc (.cells #[.int .u8 k, .int .u64 x] 31))) := below_next HB.out ((Below.refl _ _).alloc (Nat.le_refl _) _)
          have hs4 : g + 1 ≤ (wr.alloc (.cells #[.int .u8 k, .int .u64 x] 31)).heap.size := by simp; omega
          have htw : w.heap.size ≤ tb := by have := HB.out.size; omega
          obtain ⟨w4, hw4⟩ : ∃ W, (wr.alloc (.cells #[.int .u8 k, .int .u64 x] 31)) = W := ⟨_, rfl⟩
          rw [hw4] at T4 P4 E4 HB4 hs4
          rw [htb]
          clear cw0 cw1
          rw [hw4]
          have HW4 := Lib.hid hw4
          clear hw4
          have t0 : w4.cell? ⟨tb, 0, none⟩ = some (.int .u8 k) := T4.out.get 0 rfl
          have t1 : w4.cell? ⟨tb, 1, none⟩ = some (.int .u64 x) := T4.out.get 1 rfl
          have t2 := Blk.frozen T4.out 1
          go_wp2_with fail
          with_reducible refine (C.out _ E4.out).mono ?_
          rintro e w5 ⟨rfl, hq⟩
          have T5 := Lib.hid (blk_eye T4.out E4.out (by decide) hq)
          have P5 := Lib.hid (P4.out.eye E4.out hq)
          have E5 := Lib.hid hq.1
          have HB5 := Lib.hid (hq.old HB4.out hge)
          have hs5 : g + 1 ≤ w5.heap.size := by have := hq.2.size; omega
          clear hq t0 t1 t2
          have t0 : w5.cell? ⟨tb, 0, none⟩ = some (.int .u8 k) := T5.out.get 0 rfl
          have t1 : w5.cell? ⟨tb, 1, none⟩ = some (.int .u64 x) := T5.out.get 1 rfl
          have t2 := Blk.frozen T5.out 1
          go_wp2_with fail
          have T6 : Hid (Blk (w5.setCell ⟨tb, 1, none⟩ (.int .u64 0)) tb 31 #[.int .u8 k, .int .u64 0]) := Blk.put T5.out 1 _
          have F6 : Fr (fun q => q = tb) w5 (w5.setCell ⟨tb, 1, none⟩ (.int .u64 0)) := (Fr.refl (fun q => q = tb) w5).setCell (p := ⟨tb, 1, none⟩) (fun _ => rfl) _
          have P6 : Hid (PenAt (w5.setCell ⟨tb, 1, none⟩ (.int .u64 0)) g g r1 pl) := P5.out.fr F6 (P5.out.g_ne T5.out (by decide)) (fun q hq e' => P5.out.row_ne T5.out (by decide) (by rw [hq, e']))
          have E6 : Hid (EyeAt (w5.setCell ⟨tb, 1, none⟩ (.int .u64 0)) ey _ true) := E5.out.fr F6 (fun e' => Blk.ne_of_type E5.out.1 T5.out (by decide) e')
          have HB6 : Hid (Below w.heap.size w (w5.setCell ⟨tb, 1, none⟩ (.int .u64 0))) := HB5.out.trans (F6.below (B := w.heap.size) HB5.out.size (fun q hq e' => by omega))
          have hs6 : g + 1 ≤ ((w5.setCell ⟨tb, 1, none⟩ (.int .u64 0))).heap.size := by simp only [World.size_setCell]; omega
          clear F6 t0 t1 t2
          obtain ⟨w6, hw6⟩ : ∃ W, (w5.setCell ⟨tb, 1, none⟩ (.int .u64 0)) = W := ⟨_, rfl⟩
          rw [hw6] at T6 P6 E6 HB6 hs6
          rw [hw6]
          have HW6 := Lib.hid hw6
          clear hw6
          have t0 : w6.cell? ⟨tb, 0, none⟩ = some (.int .u8 k) := T6.out.get 0 rfl
          have t1 : w6.cell? ⟨tb, 1, none⟩ = some (.int .u64 0) := T6.out.get 1 rfl
          have t2 := Blk.frozen T6.out 1
          go_wp2_with fail
          with_reducible refine (eyeFailed ey _ _ _ E6.out).mono ?_
          rintro e wx ⟨rfl, rfl⟩
          go_wp2_with fail
          with_reducible refine (eyeLeft ey _ _ _ E6.out).mono ?_
          rintro e wx ⟨rfl, rfl⟩
          clear t0 t1 t2
          go_wp2_with fail
          with_reducible refine (dead_num ey _ E6.out).mono ?_
          rintro e w7 ⟨rfl, hq⟩
          have E7 := Lib.hid hq.1
          have HB7 := Lib.hid (hq.old HB6.out hge)
          clear hq
          go_wp2_with fail
          with_reducible refine (dead_byte ey _ E7.out).mono ?_
          rintro e w8 ⟨rfl, hq⟩
          have E8 := Lib.hid hq.1
          have HB8 := Lib.hid (hq.old HB7.out hge)
          clear hq
          go_wp2_with fail
          with_reducible refine (dead_flag ey _ E8.out).mono ?_
          rintro e w9 ⟨rfl, hq⟩
          have E9 := Lib.hid hq.1
          have HB9 := Lib.hid (hq.old HB8.out hge)
          clear hq
          go_wp2_with fail
          with_reducible refine (dead_int ey _ E9.out).mono ?_
          rintro e w10 ⟨rfl, hq⟩
          have E10 := Lib.hid hq.1
          have HB10 := Lib.hid (hq.old HB9.out hge)
          clear hq
          go_wp2_with fail
          with_reducible refine (eyeEnd ey _ _ _ E10.out).mono ?_
          rintro e wx ⟨rfl, rfl⟩
          have z1 : endE [] true = 140 := rfl
          go_wp2_with fail
          go_ret
          exact ⟨by simp, HB10.out⟩
        · obtain ⟨hR, hml⟩ := decB_only hRb.out hd
          have HD := Lib.hid hd
          have HR := Lib.hid hR
          clear hd hR
          have C := Lib.hid (fun w h => eye_num ey m R0 R false w h HD.out)
          have WT : Hid (thingB k (m : Int) = numB m) := by unfold Hid; rw [thingB1 hk, Int.toNat_natCast]
          have HS2 : Hid (S = (pl ++ numB m) ++ R) := by unfold Hid; rw [List.append_assoc]; rw [← HR.out]; exact HSR.out
          have WR := Lib.hid (fun w h hB => write_any g g k (m : Int) r1 pl w h k0 k1 ⟨by omega, by omega⟩ (by omega) hB)
          go_wp2_with fail
          obtain ⟨tb, htb⟩ : ∃ t, wr.heap.size = t := ⟨_, rfl⟩
          have T4 : Hid (Blk (wr.alloc (.cells #[.int .u8 k, .int .u64 x] 31)) tb 31 #[.int .u8 k, .int .u64 x]) := by rw [← htb]; exact Blk.new _ _ _
          have P4 : Hid (PenAt (wr.alloc (.cells #[.int .u8 k, .int .u64 x] 31)) g g r1 pl) := P.out.alloc _
          have E4 : Hid (EyeAt (wr.alloc (.cells #[.int .u8 k, .int .u64 x] 31)) ey _ false) := E.out.below ((Below.refl _ _).alloc (Nat.le_refl _) _)
          have HB4 : Hid (Below w.heap.size w (wr.alloc (.cells #[.int .u8 k, .int .u64 x] 31))) := below_next HB.out ((Below.refl _ _).alloc (Nat.le_refl _) _)
          have hs4 : g + 1 ≤ (wr.alloc (.cells #[.int .u8 k, .int .u64 x] 31)).heap.size := by simp; omega
          have htw : w.heap.size ≤ tb := by have := HB.out.size; omega
          obtain ⟨w4, hw4⟩ : ∃ W, (wr.alloc (.cells #[.int .u8 k, .int .u64 x] 31)) = W := ⟨_, rfl⟩
          rw [hw4] at T4 P4 E4 HB4 hs4
          rw [htb]
          clear cw0 cw1
          rw [hw4]
          have HW4 := Lib.hid hw4
          clear hw4
          have t0 : w4.cell? ⟨tb, 0, none⟩ = some (.int .u8 k) := T4.out.get 0 rfl
          have t1 : w4.cell? ⟨tb, 1, none⟩ = some (.int .u64 x) := T4.out.get 1 rfl
          have t2 := Blk.frozen T4.out 1
          go_wp2_with fail
          with_reducible refine (C.out _ E4.out).mono ?_
          rintro e w5 ⟨rfl, hq⟩
          have T5 := Lib.hid (blk_eye T4.out E4.out (by decide) hq)
          have P5 := Lib.hid (P4.out.eye E4.out hq)
          have E5 := Lib.hid hq.1
          have HB5 := Lib.hid (hq.old HB4.out hge)
          have hs5 : g + 1 ≤ w5.heap.size := by have := hq.2.size; omega
          clear hq t0 t1 t2
          have t0 : w5.cell? ⟨tb, 0, none⟩ = some (.int .u8 k) := T5.out.get 0 rfl
          have t1 : w5.cell? ⟨tb, 1, none⟩ = some (.int .u64 x) := T5.out.get 1 rfl
          have t2 := Blk.frozen T5.out 1
          go_wp2_with fail
          have T6 : Hid (Blk (w5.setCell ⟨tb, 1, none⟩ (.int .u64 (m : Int))) tb 31 #[.int .u8 k, .int .u64 (m : Int)]) := Blk.put T5.out 1 _
          have F6 : Fr (fun q => q = tb) w5 (w5.setCell ⟨tb, 1, none⟩ (.int .u64 (m : Int))) := (Fr.refl (fun q => q = tb) w5).setCell (p := ⟨tb, 1, none⟩) (fun _ => rfl) _
          have P6 : Hid (PenAt (w5.setCell ⟨tb, 1, none⟩ (.int .u64 (m : Int))) g g r1 pl) := P5.out.fr F6 (P5.out.g_ne T5.out (by decide)) (fun q hq e' => P5.out.row_ne T5.out (by decide) (by rw [hq, e']))
          have E6 : Hid (EyeAt (w5.setCell ⟨tb, 1, none⟩ (.int .u64 (m : Int))) ey _ false) := E5.out.fr F6 (fun e' => Blk.ne_of_type E5.out.1 T5.out (by decide) e')
          have HB6 : Hid (Below w.heap.size w (w5.setCell ⟨tb, 1, none⟩ (.int .u64 (m : Int)))) := HB5.out.trans (F6.below (B := w.heap.size) HB5.out.size (fun q hq e' => by omega))
          have hs6 : g + 1 ≤ ((w5.setCell ⟨tb, 1, none⟩ (.int .u64 (m : Int)))).heap.size := by simp only [World.size_setCell]; omega
          clear F6 t0 t1 t2
          obtain ⟨w6, hw6⟩ : ∃ W, (w5.setCell ⟨tb, 1, none⟩ (.int .u64 (m : Int))) = W := ⟨_, rfl⟩
          rw [hw6] at T6 P6 E6 HB6 hs6
          rw [hw6]
          have HW6 := Lib.hid hw6
          clear hw6
          have t0 : w6.cell? ⟨tb, 0, none⟩ = some (.int .u8 k) := T6.out.get 0 rfl
          have t1 : w6.cell? ⟨tb, 1, none⟩ = some (.int .u64 (m : Int)) := T6.out.get 1 rfl
          have t2 := Blk.frozen T6.out 1
          go_wp2_with fail
          with_reducible refine (eyeFailed ey _ _ _ E6.out).mono ?_
          rintro e wx ⟨rfl, rfl⟩
          go_wp2_with fail
          with_reducible refine (WR.out _ P6.out (by omega)).mono ?_
          rintro e w7 ⟨rfl, hp⟩
          have E7 := Lib.hid (E6.out.pen P6.out hp)
          have HB7 := Lib.hid (hp.old HB6.out P6.out hgg hgg)
          obtain ⟨r2, hp, hf, -⟩ := hp
          have hs7 : g + 1 ≤ w7.heap.size := by have := hf.size; omega
          rw [WT.out] at hp
          have PK := Lib.hid hp
          clear hp hf t0 t1 t2
          have cut := bs_take (pl ++ numB m) R
          rw [← HS2.out] at cut
          obtain ⟨PL, hPL⟩ : ∃ q, pl ++ numB m = q := ⟨_, rfl⟩
          rw [hPL] at cut PK
          have hlR : S.length = PL.length + R.length := by rw [HS2.out, hPL, List.length_append]
          have hd : (S.length : Int) - (R.length : Int) = (PL.length : Int) := by omega
          have u1 : ¬ (S.length : Int) < (PL.length : Int) := by omega
          have u2 : PL.length ≤ 4096 := by omega
          have HPL := Lib.hid hPL
          clear hPL hlR
          go_wp2_with fail
          with_reducible refine (eyeLeft ey _ _ _ E7.out).mono ?_
          rintro e wx ⟨rfl, rfl⟩
          go_wp2_with fail
          with_reducible refine (penDone g g r2 _ _ PK.out u2).mono ?_
          rintro e wx ⟨rfl, rfl⟩
          go_wp2_with fail
          go_roundg (gk - 1)
          case rel => exact ⟨i + 1, PL, R, r2, by omega, by go_num, rfl, by rw [← HPL.out]; exact HS2.out, PK.out, E7.out, HB7.out, hs7⟩
          case measure => omega
      · rcases hd : decB 0 R0 with _ | ⟨m, R⟩
        · have HD := Lib.hid hd
          clear hd
          have C := Lib.hid (fun w h => eye_ibad ey R0 w h HD.out)
          go_wp2_with fail
          obtain ⟨tb, htb⟩ : ∃ t, wr.heap.size = t := ⟨_, rfl⟩
          have T4 : Hid (Blk (wr.alloc (.cells #[.int .u8 k, .int .u64 x] 31)) tb 31 #[.int .u8 k, .int .u64 x]) := by rw [← htb]; exact Blk.new _ _ _
          have P4 : Hid (PenAt (wr.alloc (.cells #[.int .u8 k, .int .u64 x] 31)) g g r1 pl) := P.out.alloc _
          have E4 : Hid (EyeAt (wr.alloc (.cells #[.int .u8 k, .int .u64 x] 31)) ey _ false) := E.out.below ((Below.refl _ _).alloc (Nat.le_refl _) _)
          have HB4 : Hid (Below w.heap.size w (wr.alloc (.cells #[.int .u8 k, .int .u64 x] 31))) := below_next HB.out ((Below.refl _ _).alloc (Nat.le_refl _) _)
          have hs4 : g + 1 ≤ (wr.alloc (.cells #[.int .u8 k, .int .u64 x] 31)).heap.size := by simp; omega
          have htw : w.heap.size ≤ tb := by have := HB.out.size; omega
          obtain ⟨w4, hw4⟩ : ∃ W, (wr.alloc (.cells #[.int .u8 k, .int .u64 x] 31)) = W := ⟨_, rfl⟩
          rw [hw4] at T4 P4 E4 HB4 hs4
          rw [htb]
          clear cw0 cw1
          rw [hw4]
          have HW4 := Lib.hid hw4
          clear hw4
          have t0 : w4.cell? ⟨tb, 0, none⟩ = some (.int .u8 k) := T4.out.get 0 rfl
          have t1 : w4.cell? ⟨tb, 1, none⟩ = some (.int .u64 x) := T4.out.get 1 rfl
          have t2 := Blk.frozen T4.out 1
          go_wp2_with fail
          with_reducible refine (C.out _ E4.out).mono ?_
          rintro e w5 ⟨rfl, hq⟩
          have T5 := Lib.hid (blk_eye T4.out E4.out (by decide) hq)
          have P5 := Lib.hid (P4.out.eye E4.out hq)
          have E5 := Lib.hid hq.1
          have HB5 := Lib.hid (hq.old HB4.out hge)
          have hs5 : g + 1 ≤ w5.heap.size := by have := hq.2.size; omega
          clear hq t0 t1 t2
          have t0 : w5.cell? ⟨tb, 0, none⟩ = some (.int .u8 k) := T5.out.get 0 rfl
          have t1 : w5.cell? ⟨tb, 1, none⟩ = some (.int .u64 x) := T5.out.get 1 rfl
          have t2 := Blk.frozen T5.out 1
          go_wp2_with fail
          have T6 : Hid (Blk (w5.setCell ⟨tb, 1, none⟩ (.int .u64 0)) tb 31 #[.int .u8 k, .int .u64 0]) := Blk.put T5.out 1 _
          have F6 : Fr (fun q => q = tb) w5 (w5.setCell ⟨tb, 1, none⟩ (.int .u64 0)) := (Fr.refl (fun q => q = tb) w5).setCell (p := ⟨tb, 1, none⟩) (fun _ => rfl) _
          have P6 : Hid (PenAt (w5.setCell ⟨tb, 1, none⟩ (.int .u64 0)) g g r1 pl) := P5.out.fr F6 (P5.out.g_ne T5.out (by decide)) (fun q hq e' => P5.out.row_ne T5.out (by decide) (by rw [hq, e']))
          have E6 : Hid (EyeAt (w5.setCell ⟨tb, 1, none⟩ (.int .u64 0)) ey _ true) := E5.out.fr F6 (fun e' => Blk.ne_of_type E5.out.1 T5.out (by decide) e')
          have HB6 : Hid (Below w.heap.size w (w5.setCell ⟨tb, 1, none⟩ (.int .u64 0))) := HB5.out.trans (F6.below (B := w.heap.size) HB5.out.size (fun q hq e' => by omega))
          have hs6 : g + 1 ≤ ((w5.setCell ⟨tb, 1, none⟩ (.int .u64 0))).heap.size := by simp only [World.size_setCell]; omega
          clear F6 t0 t1 t2
          obtain ⟨w6, hw6⟩ : ∃ W, (w5.setCell ⟨tb, 1, none⟩ (.int .u64 0)) = W := ⟨_, rfl⟩
          rw [hw6] at T6 P6 E6 HB6 hs6
          rw [hw6]
          have HW6 := Lib.hid hw6
          clear hw6
          have t0 : w6.cell? ⟨tb, 0, none⟩ = some (.int .u8 k) := T6.out.get 0 rfl
          have t1 : w6.cell? ⟨tb, 1, none⟩ = some (.int .u64 0) := T6.out.get 1 rfl
          have t2 := Blk.frozen T6.out 1
          go_wp2_with fail
          with_reducible refine (eyeFailed ey _ _ _ E6.out).mono ?_
          rintro e wx ⟨rfl, rfl⟩
          go_wp2_with fail
          with_reducible refine (eyeLeft ey _ _ _ E6.out).mono ?_
          rintro e wx ⟨rfl, rfl⟩
          clear t0 t1 t2
          go_wp2_with fail
          with_reducible refine (dead_num ey _ E6.out).mono ?_
          rintro e w7 ⟨rfl, hq⟩
          have E7 := Lib.hid hq.1
          have HB7 := Lib.hid (hq.old HB6.out hge)
          clear hq
          go_wp2_with fail
          with_reducible refine (dead_byte ey _ E7.out).mono ?_
          rintro e w8 ⟨rfl, hq⟩
          have E8 := Lib.hid hq.1
          have HB8 := Lib.hid (hq.old HB7.out hge)
          clear hq
          go_wp2_with fail
          with_reducible refine (dead_flag ey _ E8.out).mono ?_
          rintro e w9 ⟨rfl, hq⟩
          have E9 := Lib.hid hq.1
          have HB9 := Lib.hid (hq.old HB8.out hge)
          clear hq
          go_wp2_with fail
          with_reducible refine (dead_int ey _ E9.out).mono ?_
          rintro e w10 ⟨rfl, hq⟩
          have E10 := Lib.hid hq.1
          have HB10 := Lib.hid (hq.old HB9.out hge)
          clear hq
          go_wp2_with fail
          with_reducible refine (eyeEnd ey _ _ _ E10.out).mono ?_
          rintro e wx ⟨rfl, rfl⟩
          have z1 : endE [] true = 140 := rfl
          go_wp2_with fail
          go_ret
          exact ⟨by simp, HB10.out⟩
        · obtain ⟨hR, hml⟩ := decB_only hRb.out hd
          have HD := Lib.hid hd
          have HR := Lib.hid hR
          obtain ⟨z0, z1, z2⟩ := unz_range hml
          obtain ⟨z, hz⟩ : ∃ z, unz m = z := ⟨_, rfl⟩
          rw [hz] at z0 z1 z2
          have HZ := Lib.hid hz
          obtain ⟨u, hu⟩ : ∃ u, IntKind.u64.wrap z = u := ⟨_, rfl⟩
          have hu0 : Word u := by rw [← hu, IntKind.wrap_u64]; exact ⟨by omega, by omega⟩
          have huz : IntKind.i64.wrap u = z := by rw [← hu, IntKind.wrap_u64, IntKind.wrap_i64]; omega
          have HUZ := Lib.hid huz
          have HZ2 := Lib.hid z2
          clear hd hR hz huz z2
          have C := Lib.hid (fun w h => eye_int ey m z R0 R false w h HD.out HZ.out)
          have WT : Hid (thingB k u = numB m) := by unfold Hid; rw [thingB2 hk, HUZ.out, HZ2.out]
          have HS2 : Hid (S = (pl ++ numB m) ++ R) := by unfold Hid; rw [List.append_assoc]; rw [← HR.out]; exact HSR.out
          have WR := Lib.hid (fun w h hB => write_any g g k u r1 pl w h k0 k1 hu0 (by omega) hB)
          go_wp2_with fail
          obtain ⟨tb, htb⟩ : ∃ t, wr.heap.size = t := ⟨_, rfl⟩
          have T4 : Hid (Blk (wr.alloc (.cells #[.int .u8 k, .int .u64 x] 31)) tb 31 #[.int .u8 k, .int .u64 x]) := by rw [← htb]; exact Blk.new _ _ _
          have P4 : Hid (PenAt (wr.alloc (.cells #[.int .u8 k, .int .u64 x] 31)) g g r1 pl) := P.out.alloc _
          have E4 : Hid (EyeAt (wr.alloc (.cells #[.int .u8 k, .int .u64 x] 31)) ey _ false) := E.out.below ((Below.refl _ _).alloc (Nat.le_refl _) _)
          have HB4 : Hid (Below w.heap.size w (wr.alloc (.cells #[.int .u8 k, .int .u64 x] 31))) := below_next HB.out ((Below.refl _ _).alloc (Nat.le_refl _) _)
          have hs4 : g + 1 ≤ (wr.alloc (.cells #[.int .u8 k, .int .u64 x] 31)).heap.size := by simp; omega
          have htw : w.heap.size ≤ tb := by have := HB.out.size; omega
          obtain ⟨w4, hw4⟩ : ∃ W, (wr.alloc (.cells #[.int .u8 k, .int .u64 x] 31)) = W := ⟨_, rfl⟩
          rw [hw4] at T4 P4 E4 HB4 hs4
          rw [htb]
          clear cw0 cw1
          rw [hw4]
          have HW4 := Lib.hid hw4
          clear hw4
          have t0 : w4.cell? ⟨tb, 0, none⟩ = some (.int .u8 k) := T4.out.get 0 rfl
          have t1 : w4.cell? ⟨tb, 1, none⟩ = some (.int .u64 x) := T4.out.get 1 rfl
          have t2 := Blk.frozen T4.out 1
          go_wp2_with fail
          with_reducible refine (C.out _ E4.out).mono ?_
          rintro e w5 ⟨rfl, hq⟩
          have T5 := Lib.hid (blk_eye T4.out E4.out (by decide) hq)
          have P5 := Lib.hid (P4.out.eye E4.out hq)
          have E5 := Lib.hid hq.1
          have HB5 := Lib.hid (hq.old HB4.out hge)
          have hs5 : g + 1 ≤ w5.heap.size := by have := hq.2.size; omega
          clear hq t0 t1 t2
          have t0 : w5.cell? ⟨tb, 0, none⟩ = some (.int .u8 k) := T5.out.get 0 rfl
          have t1 : w5.cell? ⟨tb, 1, none⟩ = some (.int .u64 x) := T5.out.get 1 rfl
          have t2 := Blk.frozen T5.out 1
          go_wp2_with fail
          have T6 : Hid (Blk (w5.setCell ⟨tb, 1, none⟩ (.int .u64 u)) tb 31 #[.int .u8 k, .int .u64 u]) := Blk.put T5.out 1 _
          have F6 : Fr (fun q => q = tb) w5 (w5.setCell ⟨tb, 1, none⟩ (.int .u64 u)) := (Fr.refl (fun q => q = tb) w5).setCell (p := ⟨tb, 1, none⟩) (fun _ => rfl) _
          have P6 : Hid (PenAt (w5.setCell ⟨tb, 1, none⟩ (.int .u64 u)) g g r1 pl) := P5.out.fr F6 (P5.out.g_ne T5.out (by decide)) (fun q hq e' => P5.out.row_ne T5.out (by decide) (by rw [hq, e']))
          have E6 : Hid (EyeAt (w5.setCell ⟨tb, 1, none⟩ (.int .u64 u)) ey _ false) := E5.out.fr F6 (fun e' => Blk.ne_of_type E5.out.1 T5.out (by decide) e')
          have HB6 : Hid (Below w.heap.size w (w5.setCell ⟨tb, 1, none⟩ (.int .u64 u))) := HB5.out.trans (F6.below (B := w.heap.size) HB5.out.size (fun q hq e' => by omega))
          have hs6 : g + 1 ≤ ((w5.setCell ⟨tb, 1, none⟩ (.int .u64 u))).heap.size := by simp only [World.size_setCell]; omega
          clear F6 t0 t1 t2
          obtain ⟨w6, hw6⟩ : ∃ W, (w5.setCell ⟨tb, 1, none⟩ (.int .u64 u)) = W := ⟨_, rfl⟩
          rw [hw6] at T6 P6 E6 HB6 hs6
          rw [hw6]
          have HW6 := Lib.hid hw6
          clear hw6
          have t0 : w6.cell? ⟨tb, 0, none⟩ = some (.int .u8 k) := T6.out.get 0 rfl
          have t1 : w6.cell? ⟨tb, 1, none⟩ = some (.int .u64 u) := T6.out.get 1 rfl
          have t2 := Blk.frozen T6.out 1
          go_wp2_with fail
          with_reducible refine (eyeFailed ey _ _ _ E6.out).mono ?_
          rintro e wx ⟨rfl, rfl⟩
          go_wp2_with fail
          with_reducible refine (WR.out _ P6.out (by omega)).mono ?_
          rintro e w7 ⟨rfl, hp⟩
          have E7 := Lib.hid (E6.out.pen P6.out hp)
          have HB7 := Lib.hid (hp.old HB6.out P6.out hgg hgg)
          obtain ⟨r2, hp, hf, -⟩ := hp
          have hs7 : g + 1 ≤ w7.heap.size := by have := hf.size; omega
          rw [WT.out] at hp
          have PK := Lib.hid hp
          clear hp hf t0 t1 t2
          have cut := bs_take (pl ++ numB m) R
          rw [← HS2.out] at cut
          obtain ⟨PL, hPL⟩ : ∃ q, pl ++ numB m = q := ⟨_, rfl⟩
          rw [hPL] at cut PK
          have hlR : S.length = PL.length + R.length := by rw [HS2.out, hPL, List.length_append]
          have hd : (S.length : Int) - (R.length : Int) = (PL.length : Int) := by omega
          have u1 : ¬ (S.length : Int) < (PL.length : Int) := by omega
          have u2 : PL.length ≤ 4096 := by omega
          have HPL := Lib.hid hPL
          clear hPL hlR
          go_wp2_with fail
          with_reducible refine (eyeLeft ey _ _ _ E7.out).mono ?_
          rintro e wx ⟨rfl, rfl⟩
          go_wp2_with fail
          with_reducible refine (penDone g g r2 _ _ PK.out u2).mono ?_
          rintro e wx ⟨rfl, rfl⟩
          go_wp2_with fail
          go_roundg (gk - 1)
          case rel => exact ⟨i + 1, PL, R, r2, by omega, by go_num, rfl, by rw [← HPL.out]; exact HS2.out, PK.out, E7.out, HB7.out, hs7⟩
          case measure => omega
      · rcases R0 with _ | ⟨b, R⟩
        · have C := Lib.hid (fun w h => flag_end ey w h)
          go_wp2_with fail
          obtain ⟨tb, htb⟩ : ∃ t, wr.heap.size = t := ⟨_, rfl⟩
          have T4 : Hid (Blk (wr.alloc (.cells #[.int .u8 k, .int .u64 0] 31)) tb 31 #[.int .u8 k, .int .u64 0]) := by rw [← htb]; exact Blk.new _ _ _
          have P4 : Hid (PenAt (wr.alloc (.cells #[.int .u8 k, .int .u64 0] 31)) g g r1 pl) := P.out.alloc _
          have E4 : Hid (EyeAt (wr.alloc (.cells #[.int .u8 k, .int .u64 0] 31)) ey _ false) := E.out.below ((Below.refl _ _).alloc (Nat.le_refl _) _)
          have HB4 : Hid (Below w.heap.size w (wr.alloc (.cells #[.int .u8 k, .int .u64 0] 31))) := below_next HB.out ((Below.refl _ _).alloc (Nat.le_refl _) _)
          have hs4 : g + 1 ≤ (wr.alloc (.cells #[.int .u8 k, .int .u64 0] 31)).heap.size := by simp; omega
          have htw : w.heap.size ≤ tb := by have := HB.out.size; omega
          obtain ⟨w4, hw4⟩ : ∃ W, (wr.alloc (.cells #[.int .u8 k, .int .u64 0] 31)) = W := ⟨_, rfl⟩
          rw [hw4] at T4 P4 E4 HB4 hs4
          rw [htb]
          clear cw0 cw1
          rw [hw4]
          have HW4 := Lib.hid hw4
          clear hw4
          have t0 : w4.cell? ⟨tb, 0, none⟩ = some (.int .u8 k) := T4.out.get 0 rfl
          have t1 : w4.cell? ⟨tb, 1, none⟩ = some (.int .u64 0) := T4.out.get 1 rfl
          have t2 := Blk.frozen T4.out 1
          go_wp2_with fail
          with_reducible refine (C.out _ E4.out).mono ?_
          rintro e w5 ⟨rfl, hq⟩
          have T5 := Lib.hid (blk_eye T4.out E4.out (by decide) hq)
          have P5 := Lib.hid (P4.out.eye E4.out hq)
          have E5 := Lib.hid hq.1
          have HB5 := Lib.hid (hq.old HB4.out hge)
          have hs5 : g + 1 ≤ w5.heap.size := by have := hq.2.size; omega
          clear hq t0 t1 t2
          have t0 : w5.cell? ⟨tb, 0, none⟩ = some (.int .u8 k) := T5.out.get 0 rfl
          have t1 : w5.cell? ⟨tb, 1, none⟩ = some (.int .u64 0) := T5.out.get 1 rfl
          have t2 := Blk.frozen T5.out 1
          go_wp2_with fail
          with_reducible refine (eyeFailed ey _ _ _ E5.out).mono ?_
          rintro e wx ⟨rfl, rfl⟩
          go_wp2_with fail
          with_reducible refine (eyeLeft ey _ _ _ E5.out).mono ?_
          rintro e wx ⟨rfl, rfl⟩
          clear t0 t1 t2
          go_wp2_with fail
          with_reducible refine (dead_num ey _ E5.out).mono ?_
          rintro e w6 ⟨rfl, hq⟩
          have E6 := Lib.hid hq.1
          have HB6 := Lib.hid (hq.old HB5.out hge)
          clear hq
          go_wp2_with fail
          with_reducible refine (dead_byte ey _ E6.out).mono ?_
          rintro e w7 ⟨rfl, hq⟩
          have E7 := Lib.hid hq.1
          have HB7 := Lib.hid (hq.old HB6.out hge)
          clear hq
          go_wp2_with fail
          with_reducible refine (dead_flag ey _ E7.out).mono ?_
          rintro e w8 ⟨rfl, hq⟩
          have E8 := Lib.hid hq.1
          have HB8 := Lib.hid (hq.old HB7.out hge)
          clear hq
          go_wp2_with fail
          with_reducible refine (dead_int ey _ E8.out).mono ?_
          rintro e w9 ⟨rfl, hq⟩
          have E9 := Lib.hid hq.1
          have HB9 := Lib.hid (hq.old HB8.out hge)
          clear hq
          go_wp2_with fail
          with_reducible refine (eyeEnd ey _ _ _ E9.out).mono ?_
          rintro e wx ⟨rfl, rfl⟩
          have z1 : endE [] true = 140 := rfl
          go_wp2_with fail
          go_ret
          exact ⟨by simp, HB9.out⟩
        · by_cases hb1 : 1 < b
          · have C := Lib.hid (fun w h => flag_bad ey b R w hb1 h)
            go_wp2_with fail
            obtain ⟨tb, htb⟩ : ∃ t, wr.heap.size = t := ⟨_, rfl⟩
            have T4 : Hid (Blk (wr.alloc (.cells #[.int .u8 k, .int .u64 0] 31)) tb 31 #[.int .u8 k, .int .u64 0]) := by rw [← htb]; exact Blk.new _ _ _
            have P4 : Hid (PenAt (wr.alloc (.cells #[.int .u8 k, .int .u64 0] 31)) g g r1 pl) := P.out.alloc _
            have E4 : Hid (EyeAt (wr.alloc (.cells #[.int .u8 k, .int .u64 0] 31)) ey _ false) := E.out.below ((Below.refl _ _).alloc (Nat.le_refl _) _)
            have HB4 : Hid (Below w.heap.size w (wr.alloc (.cells #[.int .u8 k, .int .u64 0] 31))) := below_next HB.out ((Below.refl _ _).alloc (Nat.le_refl _) _)
            have hs4 : g + 1 ≤ (wr.alloc (.cells #[.int .u8 k, .int .u64 0] 31)).heap.size := by simp; omega
            have htw : w.heap.size ≤ tb := by have := HB.out.size; omega
            obtain ⟨w4, hw4⟩ : ∃ W, (wr.alloc (.cells #[.int .u8 k, .int .u64 0] 31)) = W := ⟨_, rfl⟩
            rw [hw4] at T4 P4 E4 HB4 hs4
            rw [htb]
            clear cw0 cw1
            rw [hw4]
            have HW4 := Lib.hid hw4
            clear hw4
            have t0 : w4.cell? ⟨tb, 0, none⟩ = some (.int .u8 k) := T4.out.get 0 rfl
            have t1 : w4.cell? ⟨tb, 1, none⟩ = some (.int .u64 0) := T4.out.get 1 rfl
            have t2 := Blk.frozen T4.out 1
            go_wp2_with fail
            with_reducible refine (C.out _ E4.out).mono ?_
            rintro e w5 ⟨rfl, hq⟩
            have T5 := Lib.hid (blk_eye T4.out E4.out (by decide) hq)
            have P5 := Lib.hid (P4.out.eye E4.out hq)
            have E5 := Lib.hid hq.1
            have HB5 := Lib.hid (hq.old HB4.out hge)
            have hs5 : g + 1 ≤ w5.heap.size := by have := hq.2.size; omega
            clear hq t0 t1 t2
            have t0 : w5.cell? ⟨tb, 0, none⟩ = some (.int .u8 k) := T5.out.get 0 rfl
            have t1 : w5.cell? ⟨tb, 1, none⟩ = some (.int .u64 0) := T5.out.get 1 rfl
            have t2 := Blk.frozen T5.out 1
            go_wp2_with fail
            with_reducible refine (eyeFailed ey _ _ _ E5.out).mono ?_
            rintro e wx ⟨rfl, rfl⟩
            go_wp2_with fail
            with_reducible refine (eyeLeft ey _ _ _ E5.out).mono ?_
            rintro e wx ⟨rfl, rfl⟩
            clear t0 t1 t2
            go_wp2_with fail
            with_reducible refine (dead_num ey _ E5.out).mono ?_
            rintro e w6 ⟨rfl, hq⟩
            have E6 := Lib.hid hq.1
            have HB6 := Lib.hid (hq.old HB5.out hge)
            clear hq
            go_wp2_with fail
            with_reducible refine (dead_byte ey _ E6.out).mono ?_
            rintro e w7 ⟨rfl, hq⟩
            have E7 := Lib.hid hq.1
            have HB7 := Lib.hid (hq.old HB6.out hge)
            clear hq
            go_wp2_with fail
            with_reducible refine (dead_flag ey _ E7.out).mono ?_
            rintro e w8 ⟨rfl, hq⟩
            have E8 := Lib.hid hq.1
            have HB8 := Lib.hid (hq.old HB7.out hge)
            clear hq
            go_wp2_with fail
            with_reducible refine (dead_int ey _ E8.out).mono ?_
            rintro e w9 ⟨rfl, hq⟩
            have E9 := Lib.hid hq.1
            have HB9 := Lib.hid (hq.old HB8.out hge)
            clear hq
            go_wp2_with fail
            with_reducible refine (eyeEnd ey _ _ _ E9.out).mono ?_
            rintro e wx ⟨rfl, rfl⟩
            have z1 : endE [] true = 140 := rfl
            go_wp2_with fail
            go_ret
            exact ⟨by simp, HB9.out⟩
          · rcases (show b = 0 ∨ b = 1 by omega) with rfl | rfl
            · have C := Lib.hid (fun w h => flag_zero ey R w h)
              have WT : Hid (thingB k 0 = [0]) := by unfold Hid; rw [thingB3 hk]; rfl
              have HS2 : Hid (S = (pl ++ [0]) ++ R) := by unfold Hid; rw [List.append_assoc]; exact HSR.out
              have WR := Lib.hid (fun w h hB => write_any g g k 0 r1 pl w h k0 k1 (by constructor <;> decide) (by omega) hB)
              go_wp2_with fail
              obtain ⟨tb, htb⟩ : ∃ t, wr.heap.size = t := ⟨_, rfl⟩
              have T4 : Hid (Blk (wr.alloc (.cells #[.int .u8 k, .int .u64 0] 31)) tb 31 #[.int .u8 k, .int .u64 0]) := by rw [← htb]; exact Blk.new _ _ _
              have P4 : Hid (PenAt (wr.alloc (.cells #[.int .u8 k, .int .u64 0] 31)) g g r1 pl) := P.out.alloc _
              have E4 : Hid (EyeAt (wr.alloc (.cells #[.int .u8 k, .int .u64 0] 31)) ey _ false) := E.out.below ((Below.refl _ _).alloc (Nat.le_refl _) _)
              have HB4 : Hid (Below w.heap.size w (wr.alloc (.cells #[.int .u8 k, .int .u64 0] 31))) := below_next HB.out ((Below.refl _ _).alloc (Nat.le_refl _) _)
              have hs4 : g + 1 ≤ (wr.alloc (.cells #[.int .u8 k, .int .u64 0] 31)).heap.size := by simp; omega
              have htw : w.heap.size ≤ tb := by have := HB.out.size; omega
              obtain ⟨w4, hw4⟩ : ∃ W, (wr.alloc (.cells #[.int .u8 k, .int .u64 0] 31)) = W := ⟨_, rfl⟩
              rw [hw4] at T4 P4 E4 HB4 hs4
              rw [htb]
              clear cw0 cw1
              rw [hw4]
              have HW4 := Lib.hid hw4
              clear hw4
              have t0 : w4.cell? ⟨tb, 0, none⟩ = some (.int .u8 k) := T4.out.get 0 rfl
              have t1 : w4.cell? ⟨tb, 1, none⟩ = some (.int .u64 0) := T4.out.get 1 rfl
              have t2 := Blk.frozen T4.out 1
              go_wp2_with fail
              with_reducible refine (C.out _ E4.out).mono ?_
              rintro e w5 ⟨rfl, hq⟩
              have T5 := Lib.hid (blk_eye T4.out E4.out (by decide) hq)
              have P5 := Lib.hid (P4.out.eye E4.out hq)
              have E5 := Lib.hid hq.1
              have HB5 := Lib.hid (hq.old HB4.out hge)
              have hs5 : g + 1 ≤ w5.heap.size := by have := hq.2.size; omega
              clear hq t0 t1 t2
              have t0 : w5.cell? ⟨tb, 0, none⟩ = some (.int .u8 k) := T5.out.get 0 rfl
              have t1 : w5.cell? ⟨tb, 1, none⟩ = some (.int .u64 0) := T5.out.get 1 rfl
              have t2 := Blk.frozen T5.out 1
              go_wp2_with fail
              with_reducible refine (eyeFailed ey _ _ _ E5.out).mono ?_
              rintro e wx ⟨rfl, rfl⟩
              go_wp2_with fail
              with_reducible refine (WR.out _ P5.out (by omega)).mono ?_
              rintro e w6 ⟨rfl, hp⟩
              have E6 := Lib.hid (E5.out.pen P5.out hp)
              have HB6 := Lib.hid (hp.old HB5.out P5.out hgg hgg)
              obtain ⟨r2, hp, hf, -⟩ := hp
              have hs6 : g + 1 ≤ w6.heap.size := by have := hf.size; omega
              rw [WT.out] at hp
              have PK := Lib.hid hp
              clear hp hf t0 t1 t2
              have cut := bs_take (pl ++ [0]) R
              rw [← HS2.out] at cut
              obtain ⟨PL, hPL⟩ : ∃ q, pl ++ [0] = q := ⟨_, rfl⟩
              rw [hPL] at cut PK
              have hlR : S.length = PL.length + R.length := by rw [HS2.out, hPL, List.length_append]
              have hd : (S.length : Int) - (R.length : Int) = (PL.length : Int) := by omega
              have u1 : ¬ (S.length : Int) < (PL.length : Int) := by omega
              have u2 : PL.length ≤ 4096 := by omega
              have HPL := Lib.hid hPL
              clear hPL hlR
              go_wp2_with fail
              with_reducible refine (eyeLeft ey _ _ _ E6.out).mono ?_
              rintro e wx ⟨rfl, rfl⟩
              go_wp2_with fail
              with_reducible refine (penDone g g r2 _ _ PK.out u2).mono ?_
              rintro e wx ⟨rfl, rfl⟩
              go_wp2_with fail
              go_roundg (gk - 1)
              case rel => exact ⟨i + 1, PL, R, r2, by omega, by go_num, rfl, by rw [← HPL.out]; exact HS2.out, PK.out, E6.out, HB6.out, hs6⟩
              case measure => omega
            · have C := Lib.hid (fun w h => flag_one ey R w h)
              have WT : Hid (thingB k 1 = [1]) := by unfold Hid; rw [thingB3 hk]; rfl
              have HS2 : Hid (S = (pl ++ [1]) ++ R) := by unfold Hid; rw [List.append_assoc]; exact HSR.out
              have WR := Lib.hid (fun w h hB => write_any g g k 1 r1 pl w h k0 k1 (by constructor <;> decide) (by omega) hB)
              go_wp2_with fail
              obtain ⟨tb, htb⟩ : ∃ t, wr.heap.size = t := ⟨_, rfl⟩
              have T4 : Hid (Blk (wr.alloc (.cells #[.int .u8 k, .int .u64 0] 31)) tb 31 #[.int .u8 k, .int .u64 0]) := by rw [← htb]; exact Blk.new _ _ _
              have P4 : Hid (PenAt (wr.alloc (.cells #[.int .u8 k, .int .u64 0] 31)) g g r1 pl) := P.out.alloc _
              have E4 : Hid (EyeAt (wr.alloc (.cells #[.int .u8 k, .int .u64 0] 31)) ey _ false) := E.out.below ((Below.refl _ _).alloc (Nat.le_refl _) _)
              have HB4 : Hid (Below w.heap.size w (wr.alloc (.cells #[.int .u8 k, .int .u64 0] 31))) := below_next HB.out ((Below.refl _ _).alloc (Nat.le_refl _) _)
              have hs4 : g + 1 ≤ (wr.alloc (.cells #[.int .u8 k, .int .u64 0] 31)).heap.size := by simp; omega
              have htw : w.heap.size ≤ tb := by have := HB.out.size; omega
              obtain ⟨w4, hw4⟩ : ∃ W, (wr.alloc (.cells #[.int .u8 k, .int .u64 0] 31)) = W := ⟨_, rfl⟩
              rw [hw4] at T4 P4 E4 HB4 hs4
              rw [htb]
              clear cw0 cw1
              rw [hw4]
              have HW4 := Lib.hid hw4
              clear hw4
              have t0 : w4.cell? ⟨tb, 0, none⟩ = some (.int .u8 k) := T4.out.get 0 rfl
              have t1 : w4.cell? ⟨tb, 1, none⟩ = some (.int .u64 0) := T4.out.get 1 rfl
              have t2 := Blk.frozen T4.out 1
              go_wp2_with fail
              with_reducible refine (C.out _ E4.out).mono ?_
              rintro e w5 ⟨rfl, hq⟩
              have T5 := Lib.hid (blk_eye T4.out E4.out (by decide) hq)
              have P5 := Lib.hid (P4.out.eye E4.out hq)
              have E5 := Lib.hid hq.1
              have HB5 := Lib.hid (hq.old HB4.out hge)
              have hs5 : g + 1 ≤ w5.heap.size := by have := hq.2.size; omega
              clear hq t0 t1 t2
              have t0 : w5.cell? ⟨tb, 0, none⟩ = some (.int .u8 k) := T5.out.get 0 rfl
              have t1 : w5.cell? ⟨tb, 1, none⟩ = some (.int .u64 0) := T5.out.get 1 rfl
              have t2 := Blk.frozen T5.out 1
              go_wp2_with fail
              have T6 : Hid (Blk (w5.setCell ⟨tb, 1, none⟩ (.int .u64 1)) tb 31 #[.int .u8 k, .int .u64 1]) := Blk.put T5.out 1 _
              have F6 : Fr (fun q => q = tb) w5 (w5.setCell ⟨tb, 1, none⟩ (.int .u64 1)) := (Fr.refl (fun q => q = tb) w5).setCell (p := ⟨tb, 1, none⟩) (fun _ => rfl) _
              have P6 : Hid (PenAt (w5.setCell ⟨tb, 1, none⟩ (.int .u64 1)) g g r1 pl) := P5.out.fr F6 (P5.out.g_ne T5.out (by decide)) (fun q hq e' => P5.out.row_ne T5.out (by decide) (by rw [hq, e']))
              have E6 : Hid (EyeAt (w5.setCell ⟨tb, 1, none⟩ (.int .u64 1)) ey _ false) := E5.out.fr F6 (fun e' => Blk.ne_of_type E5.out.1 T5.out (by decide) e')
              have HB6 : Hid (Below w.heap.size w (w5.setCell ⟨tb, 1, none⟩ (.int .u64 1))) := HB5.out.trans (F6.below (B := w.heap.size) HB5.out.size (fun q hq e' => by omega))
              have hs6 : g + 1 ≤ ((w5.setCell ⟨tb, 1, none⟩ (.int .u64 1))).heap.size := by simp only [World.size_setCell]; omega
              clear F6 t0 t1 t2
              obtain ⟨w6, hw6⟩ : ∃ W, (w5.setCell ⟨tb, 1, none⟩ (.int .u64 1)) = W := ⟨_, rfl⟩
              rw [hw6] at T6 P6 E6 HB6 hs6
              rw [hw6]
              have HW6 := Lib.hid hw6
              clear hw6
              have t0 : w6.cell? ⟨tb, 0, none⟩ = some (.int .u8 k) := T6.out.get 0 rfl
              have t1 : w6.cell? ⟨tb, 1, none⟩ = some (.int .u64 1) := T6.out.get 1 rfl
              have t2 := Blk.frozen T6.out 1
              go_wp2_with fail
              with_reducible refine (eyeFailed ey _ _ _ E6.out).mono ?_
              rintro e wx ⟨rfl, rfl⟩
              go_wp2_with fail
              with_reducible refine (WR.out _ P6.out (by omega)).mono ?_
              rintro e w7 ⟨rfl, hp⟩
              have E7 := Lib.hid (E6.out.pen P6.out hp)
              have HB7 := Lib.hid (hp.old HB6.out P6.out hgg hgg)
              obtain ⟨r2, hp, hf, -⟩ := hp
              have hs7 : g + 1 ≤ w7.heap.size := by have := hf.size; omega
              rw [WT.out] at hp
              have PK := Lib.hid hp
              clear hp hf t0 t1 t2
              have cut := bs_take (pl ++ [1]) R
              rw [← HS2.out] at cut
              obtain ⟨PL, hPL⟩ : ∃ q, pl ++ [1] = q := ⟨_, rfl⟩
              rw [hPL] at cut PK
              have hlR : S.length = PL.length + R.length := by rw [HS2.out, hPL, List.length_append]
              have hd : (S.length : Int) - (R.length : Int) = (PL.length : Int) := by omega
              have u1 : ¬ (S.length : Int) < (PL.length : Int) := by omega
              have u2 : PL.length ≤ 4096 := by omega
              have HPL := Lib.hid hPL
              clear hPL hlR
              go_wp2_with fail
              with_reducible refine (eyeLeft ey _ _ _ E7.out).mono ?_
              rintro e wx ⟨rfl, rfl⟩
              go_wp2_with fail
              with_reducible refine (penDone g g r2 _ _ PK.out u2).mono ?_
              rintro e wx ⟨rfl, rfl⟩
              go_wp2_with fail
              go_roundg (gk - 1)
              case rel => exact ⟨i + 1, PL, R, r2, by omega, by go_num, rfl, by rw [← HPL.out]; exact HS2.out, PK.out, E7.out, HB7.out, hs7⟩
              case measure => omega
    · obtain rfl : i = n := by omega
      clear HC0 HC1 HA HK HN
      have hlS : (S.length : Int) = (pl.length : Int) + (R0.length : Int) := by have := congrArg List.length HSR.out; rw [List.length_append] at this; omega
      by_cases h0 : R0 = []
      · subst h0
        have q1 : (pl.length : Int) = (S.length : Int) := by rw [hlS]; simp
        have z0 : endE [] false = 0 := rfl
        clear hlS
        go_wp2_with fail
        with_reducible refine (eyeEnd ey _ _ _ E.out).mono ?_
        rw [z0]
        rintro e wx ⟨rfl, rfl⟩
        go_wp2_with fail
        go_ret
        exact ⟨by simp, HB.out⟩
      · have hp : 0 < R0.length := List.length_pos_iff.2 h0
        have z0 : endE R0 false = 140 := by unfold endE; cases R0 with | nil => exact absurd rfl h0 | cons x t => rfl
        have q1 : ((pl.length : Int) == (S.length : Int)) = false := beq_eq_false_iff_ne.2 (by omega)
        clear hlS h0
        go_wp2_with fail
        with_reducible refine (eyeEnd ey _ _ _ E.out).mono ?_
        rw [z0]
        rintro e wx ⟨rfl, rfl⟩
        go_wp2_with fail
        go_ret
        exact ⟨by simp, HB.out⟩

theorem octetOne_walk (w : World) (s : ByteArray) (fs : s.size ≤ 9223372036854775807) (A : Option Addr) (n c : Nat) (K : Nat → Int) (fK : ∀ i, i < n → (Lit.int .u8 (K i)).wf = true) (F : Nat → Int) (fF : ∀ i, i < n → (Lit.int .u64 (F i)).wf = true)
    (hl : n ≤ c) (hm : c ≤ maxLen) (hA : 0 < n → ∃ b off, A = some ⟨b, off, none⟩ ∧ b < w.heap.size) (hC0 : ∀ b off, A = some ⟨b, off, none⟩ → ∀ i, i < n → w.cell? ⟨b, off + (i * 2 + 0), none⟩ = some (.int .u8 (K i)))
    (hC1 : ∀ b off, A = some ⟨b, off, none⟩ → ∀ i, i < n → w.cell? ⟨b, off + (i * 2 + 1), none⟩ = some (.int .u64 (F i))) :
    Calls Try.prog 7 #[.string s, .slice A n c] w fun e w' => e = .returned (.bool true) ∧ Below w.heap.size w w' := by
  obtain ⟨l, hb, rfl, hsl⟩ := bs_of s
  exact octetOne_at l A n c K F w (Nat.le_trans hl hm) hA (fun i hi => byte_of_wf (fK i hi)) (fun i hi => word_of_wf (fF i hi)) hb (by omega) hC0 hC1

end Go.Proofs.Ytdlpnhplldnlbaa
