/-
  Things written one behind the other; a thing read.
-/
import Derived.Test.YtdlpnhplldnlbaaProg
import Derived.Test.YtdlpnhplldnlbaaOctF
namespace Go.Proofs.Ytdlpnhplldnlbaa
set_option linter.unusedVariables false
set_option linter.unusedSimpArgs false
set_option maxRecDepth 100000
open Go.RowKit

/-- The bytes of the first m things. -/
def upto (K N : Nat → Int) : Nat → List Nat
  | 0 => []
  | m + 1 => upto K N m ++ thingB (K m) (N m)
theorem upto_len (K N : Nat → Int) (n : Nat) (h : ∀ i, i < n → Word (N i)) : ∀ m, m ≤ n → (upto K N m).length ≤ 10 * m := by
  intro m
  induction m with
  | zero => intro _; simp [upto]
  | succ m ih =>
    intro hm
    have a := ih (by omega)
    have b := thingB_len (K m) (N m) (h m (by omega))
    rw [upto, List.length_append]
    omega
theorem thingB0 {k n : Int} (h : k % 4 = 0) : thingB k n = [(n % 256).toNat] := by unfold thingB; rw [if_pos h]
theorem thingB1 {k n : Int} (h : k % 4 = 1) : thingB k n = numB n.toNat := by unfold thingB; rw [if_neg (by omega), if_pos h]
theorem thingB2 {k n : Int} (h : k % 4 = 2) : thingB k n = numB (zz (IntKind.i64.wrap n)).toNat := by unfold thingB; rw [if_neg (by omega), if_neg (by omega), if_pos h]
theorem thingB3 {k n : Int} (h : k % 4 = 3) : thingB k n = [flagB (decide (n % 2 = 1))] := by unfold thingB; rw [if_neg (by omega), if_neg (by omega), if_neg (by omega)]
/-- The bytes of so many things from the i-th on. -/
def rest (K N : Nat → Int) : Nat → Nat → List Nat
  | 0, _ => []
  | c + 1, i => thingB (K i) (N i) ++ rest K N c (i + 1)
theorem upto_rest (K N : Nat → Int) : ∀ c i, upto K N (i + c) = upto K N i ++ rest K N c i := by
  intro c
  induction c with
  | zero => intro i; simp [rest]
  | succ c ih =>
    intro i
    rw [rest, show i + (c + 1) = (i + 1) + c by omega, ih (i + 1), upto, List.append_assoc]
theorem upto_all (K N : Nat → Int) (n : Nat) : upto K N n = rest K N n 0 := by
  have := upto_rest K N n 0
  simpa [upto] using this
theorem upto_bytes (K N : Nat → Int) : ∀ m, Bytes (upto K N m) := by
  intro m
  induction m with
  | zero => intro x hx; cases hx
  | succ m ih => exact ih.app (thingB_bytes _ _)

set_option maxHeartbeats 2000000 in
/-- Things written. -/
theorem written_any (A : Option Addr) (n c : Nat) (K N : Nat → Int) (w : World) (hn : n ≤ 1000000000000) (hA : 0 < n → ∃ b off, A = some ⟨b, off, none⟩ ∧ b < w.heap.size)
    (hK : ∀ i, i < n → 0 ≤ K i ∧ K i ≤ 255) (hN : ∀ i, i < n → Word (N i))
    (hC0 : ∀ b off, A = some ⟨b, off, none⟩ → ∀ i, i < n → w.cell? ⟨b, off + (i * 2 + 0), none⟩ = some (.int .u8 (K i))) (hC1 : ∀ b off, A = some ⟨b, off, none⟩ → ∀ i, i < n → w.cell? ⟨b, off + (i * 2 + 1), none⟩ = some (.int .u64 (N i))) :
    Calls Try.prog 35 #[.slice A n c] w fun e w' => e = .returned (.tuple #[.string (if (upto K N n).length ≤ 4096 then bs (upto K N n) else ⟨#[]⟩), .bool (decide ((upto K N n).length ≤ 4096))]) ∧ Below w.heap.size w w' := by
  have HK := Lib.hid hK
  have HN := Lib.hid hN
  have HC0 := Lib.hid hC0
  have HC1 := Lib.hid hC1
  have HA := Lib.hid hA
  clear hK hN hC0 hC1 hA
  go_enter Try.func35, Try.ntmps35
  go_wp2_with fail
  obtain ⟨g, hg⟩ : ∃ g, w.heap.size = g := ⟨_, rfl⟩
  have P1 : Hid (PenAt (w.alloc (.cells #[.slice none 0 0] 28)) g g none []) := ⟨.slice none 0 0, by rw [← hg]; exact Blk.new _ _ _, World.ownsRow_nil _ _ _ _, rfl, fun x hx => by cases hx⟩
  have P0 := Lib.hid (PenTo.refl P1.out)
  have B0 : Below w.heap.size w (w.alloc (.cells #[.slice none 0 0] 28)) := by go_grown
  have hsz : g + 1 ≤ (w.alloc (.cells #[.slice none 0 0] 28)).heap.size := by simp [hg]
  have hge : w.heap.size ≤ g := by omega
  rw [hg]
  obtain ⟨W0, hW0⟩ : ∃ W0, (w.alloc (.cells #[.slice none 0 0] 28)) = W0 := ⟨_, rfl⟩
  rw [hW0] at P0 P1 B0 hsz
  rw [hW0]
  have HB0 := Lib.hid B0
  clear hg hW0 B0
  go_loopg [5] n (fun gk ix wr => ∃ i : Nat, i + gk = n ∧ ix = .int .i64 i ∧ PenTo g g none (upto K N i) W0 wr)
  case atStart => exact ⟨0, by omega, rfl, P0.out⟩
  case round =>
    obtain ⟨i, hi, rfl, r1, hP, hF, hR⟩ := hrel
    have hlu := upto_len K N n HN.out i (by omega)
    have hws := hF.size
    have Hp := Lib.hid hP
    have Hf := Lib.hid hF
    have Hr := Lib.hid hR
    have B2 : Below w.heap.size w wr := (show PenTo g g none (upto K N i) W0 wr from ⟨r1, hP, hF, hR⟩).old (l0 := []) HB0.out P1.out (by omega) (by omega)
    have HB2 := Lib.hid B2
    clear hP hF hR B2
    by_cases hlt : i < n
    · obtain ⟨bA, off, rfl, hbA⟩ := HA.out (by omega)
      have ck0 := HC0.out _ _ rfl i hlt
      have ck1 := HC1.out _ _ rfl i hlt
      have cw0 : wr.cell? ⟨bA, off + i * 2, none⟩ = some (.int .u8 (K i)) := (HB2.out.cell (p := ⟨bA, off + i * 2, none⟩) hbA).trans ck0
      have cw1 : wr.cell? ⟨bA, off + i * 2 + 1, none⟩ = some (.int .u64 (N i)) := by rw [Nat.add_assoc]; exact (HB2.out.cell (p := ⟨bA, off + (i * 2 + 1), none⟩) hbA).trans ck1
      obtain ⟨k0, k1⟩ := HK.out i hlt
      have WR := Lib.hid (fun h hB => write_any g g (K i) (N i) r1 (upto K N i) wr h k0 k1 (HN.out i hlt) (by omega) hB)
      clear ck0 ck1 HC0 HC1 HA HK
      go_wp2_with fail
      with_reducible refine (WR.out Hp.out (by omega)).mono ?_
      rintro e w3 ⟨rfl, hp3⟩
      have HP3 : Hid (PenTo g g none (upto K N (i + 1)) W0 w3) := hp3.next Hf.out Hr.out
      clear hp3 cw0 cw1
      go_wp2_with fail
      go_roundg (gk - 1)
      case rel => exact ⟨i + 1, by omega, by go_num, HP3.out⟩
      case measure => omega
    · have hin : i = n := by omega
      subst hin
      clear HK HC0 HC1 HA
      by_cases hlong : 4096 < (upto K N i).length
      · go_wp2_with fail
        with_reducible refine (penLong g g r1 _ _ Hp.out hlong).mono ?_
        rintro e w4 ⟨rfl, rfl⟩
        go_wp2_with fail
        go_ret2
        exact ⟨rfl, HB2.out⟩
      · go_wp2_with fail
        with_reducible refine (penDone g g r1 _ _ Hp.out (by omega)).mono ?_
        rintro e w4 ⟨rfl, rfl⟩
        go_wp2_with fail
        go_ret2
        exact ⟨rfl, HB2.out⟩

/-! ### A thing read -/
def readB (k n : Int) (l : List Nat) : Bool := if k % 4 = 0 then ((byteR l : Nat) : Int) == n % 256 else if k % 4 = 1 then ((numR l : Nat) : Int) == n else if k % 4 = 2 then unz (numR l) == IntKind.i64.wrap n else flagR l == (n % 2 == 1)
def readL (k : Int) (l : List Nat) : List Nat := if k % 4 = 0 then byteL l else if k % 4 = 1 then numL l else if k % 4 = 2 then numL l else flagL l
def readF (k : Int) (l : List Nat) (f : Bool) : Bool := if k % 4 = 0 then byteF l f else if k % 4 = 1 then numF l else if k % 4 = 2 then numF l else flagF l f
theorem read_any (g : Nat) (k n : Int) (l : List Nat) (f : Bool) (w : World) (h : EyeAt w g l f) (k0 : 0 ≤ k) (k1 : k ≤ 255) (hn : Word n) :
    Calls Try.prog 36 #[.agg #[.int .u8 k, .int .u64 n], .pointer (some ⟨g, 0, none⟩)] w fun e w' => e = .returned (.bool (readB k n l)) ∧ EyeTo g (readL k l) (readF k l f) w w' := by
  have hB : ∀ w1, Below w.heap.size w w1 → EyeAt w1 g l f := fun w1 hb => h.below hb
  have H := Lib.hid hB
  obtain ⟨n0, n1⟩ := hn
  have hlt : g < w.heap.size := Blk.lt h.1
  clear hB h
  rcases (show k % 4 = 0 ∨ k % 4 = 1 ∨ k % 4 = 2 ∨ k % 4 = 3 by omega) with hk | hk | hk | hk
  · have e1 : Hid (readB k n l = (((byteR l : Nat) : Int) == n % 256)) := by unfold Hid readB; rw [if_pos hk]
    have e2 : Hid (readL k l = byteL l) := by unfold Hid readL; rw [if_pos hk]
    have e3 : Hid (readF k l f = byteF l f) := by unfold Hid readF; rw [if_pos hk]
    rw [e1.out, e2.out, e3.out]
    have C := Lib.hid (fun w h => eyeByte g l f w h)
    have cx : IntKind.u8.wrap n = n % 256 := by rw [IntKind.wrap_u8]
    have tm : n.tmod 2 = n % 2 := Int.tmod_eq_emod_of_nonneg n0
    have hne : w.heap.size ≠ g := by omega
    go_enter Try.func36, Try.ntmps36
    go_wp2_with fail
    go_region_held3 (fun w' => w'.cell? ⟨w.heap.size, 1, none⟩ = some (.int .u64 n)) (first | assumption | go_keep)
      (first | (go_at_call 22; refine (C.out _ (H.out _ (by go_grown))).mono ?_; rintro e w1 ⟨rfl, hp⟩; have HP := Lib.hid (hp.ahead (w := w) (by go_grown)); have hk := (hp.2.cell (p := ⟨w.heap.size, 1, none⟩) (by simp) hne).trans (show _ = some (Value.int IntKind.u64 n) by simp); clear hp))
    go_wp2_with fail
    go_ret
    exact ⟨rfl, HP.out⟩
  · have e1 : Hid (readB k n l = (((numR l : Nat) : Int) == n)) := by unfold Hid readB; rw [if_neg (by omega), if_pos hk]
    have e2 : Hid (readL k l = numL l) := by unfold Hid readL; rw [if_neg (by omega), if_pos hk]
    have e3 : Hid (readF k l f = numF l) := by unfold Hid readF; rw [if_neg (by omega), if_pos hk]
    rw [e1.out, e2.out, e3.out]
    have C := Lib.hid (fun w h => eyeNum g l f w h)
    have tm : n.tmod 2 = n % 2 := Int.tmod_eq_emod_of_nonneg n0
    have hne : w.heap.size ≠ g := by omega
    go_enter Try.func36, Try.ntmps36
    go_wp2_with fail
    go_region_held3 (fun w' => w'.cell? ⟨w.heap.size, 1, none⟩ = some (.int .u64 n)) (first | assumption | go_keep)
      (first | (go_at_call 24; refine (C.out _ (H.out _ (by go_grown))).mono ?_; rintro e w1 ⟨rfl, hp⟩; have HP := Lib.hid (hp.ahead (w := w) (by go_grown)); have hk := (hp.2.cell (p := ⟨w.heap.size, 1, none⟩) (by simp) hne).trans (show _ = some (Value.int IntKind.u64 n) by simp); clear hp))
    go_wp2_with fail
    go_ret
    exact ⟨rfl, HP.out⟩
  · have e1 : Hid (readB k n l = (unz (numR l) == IntKind.i64.wrap n)) := by unfold Hid readB; rw [if_neg (by omega), if_neg (by omega), if_pos hk]
    have e2 : Hid (readL k l = numL l) := by unfold Hid readL; rw [if_neg (by omega), if_neg (by omega), if_pos hk]
    have e3 : Hid (readF k l f = numF l) := by unfold Hid readF; rw [if_neg (by omega), if_neg (by omega), if_pos hk]
    rw [e1.out, e2.out, e3.out]
    obtain ⟨m, hm⟩ : ∃ m, IntKind.i64.wrap n = m := ⟨_, rfl⟩
    obtain ⟨u, hu⟩ : ∃ m, unz (numR l) = m := ⟨_, rfl⟩
    rw [hm, hu]
    have C := Lib.hid (fun w h => eyeInt g l f w h)
    rw [hu] at C
    clear hu
    have tm : n.tmod 2 = n % 2 := Int.tmod_eq_emod_of_nonneg n0
    have hne : w.heap.size ≠ g := by omega
    go_enter Try.func36, Try.ntmps36
    go_wp2_with fail
    go_region_held3 (fun w' => w'.cell? ⟨w.heap.size, 1, none⟩ = some (.int .u64 n)) (first | assumption | go_keep)
      (first | (go_at_call 26; refine (C.out _ (H.out _ (by go_grown))).mono ?_; rintro e w1 ⟨rfl, hp⟩; have HP := Lib.hid (hp.ahead (w := w) (by go_grown)); have hk := (hp.2.cell (p := ⟨w.heap.size, 1, none⟩) (by simp) hne).trans (show _ = some (Value.int IntKind.u64 n) by simp); clear hp))
    go_wp2_with fail
    go_ret
    exact ⟨rfl, HP.out⟩
  · have e1 : Hid (readB k n l = (flagR l == (n % 2 == 1))) := by unfold Hid readB; rw [if_neg (by omega), if_neg (by omega), if_neg (by omega)]
    have e2 : Hid (readL k l = flagL l) := by unfold Hid readL; rw [if_neg (by omega), if_neg (by omega), if_neg (by omega)]
    have e3 : Hid (readF k l f = flagF l f) := by unfold Hid readF; rw [if_neg (by omega), if_neg (by omega), if_neg (by omega)]
    rw [e1.out, e2.out, e3.out]
    have C := Lib.hid (fun w h => eyeFlag g l f w h)
    have tm : n.tmod 2 = n % 2 := Int.tmod_eq_emod_of_nonneg n0
    have hne : w.heap.size ≠ g := by omega
    go_enter Try.func36, Try.ntmps36
    go_wp2_with fail
    go_region_held3 (fun w' => w'.cell? ⟨w.heap.size, 1, none⟩ = some (.int .u64 n)) (first | assumption | go_keep)
      (first | (go_at_call 28; refine (C.out _ (H.out _ (by go_grown))).mono ?_; rintro e w1 ⟨rfl, hp⟩; have HP := Lib.hid (hp.ahead (w := w) (by go_grown)); have hk := (hp.2.cell (p := ⟨w.heap.size, 1, none⟩) (by simp) hne).trans (show _ = some (Value.int IntKind.u64 n) by simp); clear hp))
    go_wp2_with fail
    go_ret
    exact ⟨rfl, HP.out⟩

end Go.Proofs.Ytdlpnhplldnlbaa
