/-
  The chapter's examples of numbers as bytes, as the laws' awake asks them.
-/
import Derived.Test.YtdlpnhplldnlbaaProg
import Derived.Test.YtdlpnhplldnlbaaOctF
namespace Go.Proofs.Ytdlpnhplldnlbaa
set_option linter.unusedVariables false
set_option linter.unusedSimpArgs false
set_option maxRecDepth 100000
open Go.RowKit

instance (l : List Nat) : Decidable (Bytes l) := inferInstanceAs (Decidable (∀ x ∈ l, x < 256))
theorem num_val {n : Nat} {t : List Nat} (l : List Nat) (h : decB 0 l = some (n, t)) : numR l = n ∧ numL l = t ∧ numF l = false := num_some h
theorem nb300 : numB 300 = [172, 2] := by rw [numB_more (by decide), numB_small (by decide)]
theorem nb0 : numB 0 = [0] := numB_small (by decide)
theorem nb128 : numB 128 = [128, 1] := by rw [numB_more (by decide), numB_small (by decide)]
theorem nb1 : numB 1 = [1] := numB_small (by decide)
theorem nb2 : numB 2 = [2] := numB_small (by decide)
theorem nb3 : numB 3 = [3] := numB_small (by decide)
theorem pen_num (B g : Nat) (n : Int) (m : Nat) (t : List Nat) (r : Option Nat) (l : List Nat) (w : World) (h : PenAt w B g r l) (hn : Word n) (hl : l.length + 10 ≤ 100000000000000) (hB : B ≤ w.heap.size) (hm : n.toNat = m) (ht : numB m = t) :
    Calls Try.prog 18 #[.pointer (some ⟨g, 0, none⟩), .int .u64 n] w fun e w' => e = .returned (.tuple #[]) ∧ PenTo B g r (l ++ t) w w' := by
  subst ht hm; exact penNum B g n r l w h hn hl hB
theorem pen_int (B g : Nat) (n : Int) (m : Nat) (t : List Nat) (r : Option Nat) (l : List Nat) (w : World) (h : PenAt w B g r l) (n0 : -9223372036854775808 ≤ n) (n1 : n ≤ 9223372036854775807) (hl : l.length + 10 ≤ 100000000000000) (hB : B ≤ w.heap.size) (hm : (zz n).toNat = m) (ht : numB m = t) :
    Calls Try.prog 46 #[.pointer (some ⟨g, 0, none⟩), .int .i64 n] w fun e w' => e = .returned (.tuple #[]) ∧ PenTo B g r (l ++ t) w w' := by
  subst ht hm; exact penInt B g n r l w h n0 n1 hl hB
theorem eye_num (g n : Nat) (l t : List Nat) (f : Bool) (w : World) (h : EyeAt w g l f) (hd : decB 0 l = some (n, t)) :
    Calls Try.prog 24 #[.pointer (some ⟨g, 0, none⟩)] w fun e w' => e = .returned (.int .u64 n) ∧ EyeTo g t false w w' := by
  obtain ⟨a, b, c⟩ := num_some hd
  have := eyeNum g l f w h
  rwa [a, b, c] at this
theorem eye_int (g n : Nat) (m : Int) (l t : List Nat) (f : Bool) (w : World) (h : EyeAt w g l f) (hd : decB 0 l = some (n, t)) (hm : unz n = m) :
    Calls Try.prog 26 #[.pointer (some ⟨g, 0, none⟩)] w fun e w' => e = .returned (.int .i64 m) ∧ EyeTo g t false w w' := by
  obtain ⟨a, b, c⟩ := num_some hd
  have := eyeInt g l f w h
  rwa [a, b, c, hm] at this
theorem eye_bad (g : Nat) (l : List Nat) (f : Bool) (w : World) (h : EyeAt w g l f) (hd : decB 0 l = none) :
    Calls Try.prog 24 #[.pointer (some ⟨g, 0, none⟩)] w fun e w' => e = .returned (.int .u64 0) ∧ EyeTo g [] true w w' := by
  obtain ⟨a, b, c⟩ := num_none hd
  have := eyeNum g l f w h
  rwa [a, b, c] at this

theorem octAwake (w : World) : Calls Try.prog 34 #[] w fun e w' => e = .returned (.bool true) ∧ Below w.heap.size w w' := by
  have hs : bs [172, 2, 0, 128, 1, 1, 2, 3, 1] = ⟨#[172, 2, 0, 128, 1, 1, 2, 3, 1]⟩ := rfl
  have HS := Lib.hid hs
  have O1 : Hid (∀ w, Calls Try.prog 19 #[.string ⟨#[128, 0]⟩] w fun e w' => e = .returned (.pointer (some ⟨w.heap.size, 0, none⟩)) ∧ EyeAt w' w.heap.size [128, 0] false ∧ Below w.heap.size w w') := fun w => eyeOpen [128, 0] w (by decide)
  have O2 : Hid (∀ w, Calls Try.prog 19 #[.string ⟨#[172, 2, 3]⟩] w fun e w' => e = .returned (.pointer (some ⟨w.heap.size, 0, none⟩)) ∧ EyeAt w' w.heap.size [172, 2, 3] false ∧ Below w.heap.size w w') := fun w => eyeOpen [172, 2, 3] w (by decide)
  clear hs
  go_enter Try.func34, Try.ntmps34
  go_wp2_with fail
  obtain ⟨g, hg⟩ : ∃ g, w.heap.size = g := ⟨_, rfl⟩
  have HG := Lib.hid hg
  have P0 : Hid (PenAt (w.alloc (.cells #[.slice none 0 0] 28)) g g none []) := ⟨.slice none 0 0, by rw [← hg]; exact Blk.new _ _ _, World.ownsRow_nil _ _ _ _, rfl, fun x hx => by cases hx⟩
  have B0 : Below w.heap.size w (w.alloc (.cells #[.slice none 0 0] 28)) := by go_grown
  have hsz : g + 1 ≤ (w.alloc (.cells #[.slice none 0 0] 28)).heap.size := by simp [hg]
  have hge : w.heap.size ≤ g := by omega
  rw [hg]
  obtain ⟨w0, hw0⟩ : ∃ W0, (w.alloc (.cells #[.slice none 0 0] 28)) = W0 := ⟨_, rfl⟩
  rw [hw0] at P0 B0 hsz
  rw [hw0]
  have HB0 := Lib.hid B0
  clear hg hw0 B0
  with_reducible refine (pen_num g g 300 300 [172, 2] none _ _ P0.out (by decide) (by decide) (by omega) rfl nb300).mono ?_
  rintro e w1 ⟨rfl, r1, hp, hf, hn⟩
  have P1 := Lib.hid hp
  have HB1 := Lib.hid ((show PenTo g g none _ w0 w1 from ⟨r1, hp, hf, hn⟩).old HB0.out P0.out (by omega) (by omega))
  have hs1 : g + 1 ≤ w1.heap.size := by have := hf.size; omega
  clear hp hf hn
  go_wp2_with fail
  with_reducible refine (pen_num g g 0 0 [0] r1 _ _ P1.out (by decide) (by decide) (by omega) rfl nb0).mono ?_
  rintro e w2 ⟨rfl, r2, hp, hf, hn⟩
  have P2 := Lib.hid hp
  have HB2 := Lib.hid ((show PenTo g g r1 _ w1 w2 from ⟨r2, hp, hf, hn⟩).old HB1.out P1.out (by omega) (by omega))
  have hs2 : g + 1 ≤ w2.heap.size := by have := hf.size; omega
  clear hp hf hn
  go_wp2_with fail
  with_reducible refine (pen_num g g 128 128 [128, 1] r2 _ _ P2.out (by decide) (by decide) (by omega) rfl nb128).mono ?_
  rintro e w3 ⟨rfl, r3, hp, hf, hn⟩
  have P3 := Lib.hid hp
  have HB3 := Lib.hid ((show PenTo g g r2 _ w2 w3 from ⟨r3, hp, hf, hn⟩).old HB2.out P2.out (by omega) (by omega))
  have hs3 : g + 1 ≤ w3.heap.size := by have := hf.size; omega
  clear hp hf hn
  go_wp2_with fail
  with_reducible refine (pen_int g g (-1) 1 [1] r3 _ _ P3.out (by decide) (by decide) (by decide) (by omega) (by decide) nb1).mono ?_
  rintro e w4 ⟨rfl, r4, hp, hf, hn⟩
  have P4 := Lib.hid hp
  have HB4 := Lib.hid ((show PenTo g g r3 _ w3 w4 from ⟨r4, hp, hf, hn⟩).old HB3.out P3.out (by omega) (by omega))
  have hs4 : g + 1 ≤ w4.heap.size := by have := hf.size; omega
  clear hp hf hn
  go_wp2_with fail
  with_reducible refine (pen_int g g 1 2 [2] r4 _ _ P4.out (by decide) (by decide) (by decide) (by omega) (by decide) nb2).mono ?_
  rintro e w5 ⟨rfl, r5, hp, hf, hn⟩
  have P5 := Lib.hid hp
  have HB5 := Lib.hid ((show PenTo g g r4 _ w4 w5 from ⟨r5, hp, hf, hn⟩).old HB4.out P4.out (by omega) (by omega))
  have hs5 : g + 1 ≤ w5.heap.size := by have := hf.size; omega
  clear hp hf hn
  go_wp2_with fail
  with_reducible refine (pen_int g g (-2) 3 [3] r5 _ _ P5.out (by decide) (by decide) (by decide) (by omega) (by decide) nb3).mono ?_
  rintro e w6 ⟨rfl, r6, hp, hf, hn⟩
  have P6 := Lib.hid hp
  have HB6 := Lib.hid ((show PenTo g g r5 _ w5 w6 from ⟨r6, hp, hf, hn⟩).old HB5.out P5.out (by omega) (by omega))
  have hs6 : g + 1 ≤ w6.heap.size := by have := hf.size; omega
  clear hp hf hn
  go_wp2_with fail
  with_reducible refine (penFlag g g true r6 _ _ P6.out (by decide) (by omega)).mono ?_
  rintro e w7 ⟨rfl, r7, hp, hf, hn⟩
  have P7 := Lib.hid hp
  have HB7 := Lib.hid ((show PenTo g g r6 _ w6 w7 from ⟨r7, hp, hf, hn⟩).old HB6.out P6.out (by omega) (by omega))
  have hs7 : g + 1 ≤ w7.heap.size := by have := hf.size; omega
  clear hp hf hn
  go_wp2_with fail
  have PL : Hid (PenAt w7 g g r7 [172, 2, 0, 128, 1, 1, 2, 3, 1]) := P7.out
  with_reducible refine (penDone g g r7 _ _ PL.out (by decide)).mono ?_
  rintro e w8 ⟨rfl, rfl⟩
  rw [HS.out]
  go_wp2_with fail
  with_reducible refine (O1.out _).mono ?_
  rintro e w8 ⟨rfl, he, hb⟩
  obtain ⟨o, ho⟩ : ∃ o, w7.heap.size = o := ⟨_, rfl⟩
  rw [ho] at he
  rw [ho]
  have E1 := Lib.hid he
  have hog : w.heap.size ≤ o := by omega
  have hos : o < w8.heap.size := Blk.lt he.1
  have HB8 := Lib.hid (below_next HB7.out hb)
  clear he hb ho
  go_wp2_with fail
  with_reducible refine (eye_bad o _ _ _ E1.out (by decide)).mono ?_
  rintro e w9 ⟨rfl, hq⟩
  have E2 := Lib.hid hq.1
  have HB9 := Lib.hid (hq.old HB8.out hog)
  have hos2 : o < w9.heap.size := Blk.lt hq.1.1
  clear hq
  go_wp2_with fail
  with_reducible refine (O2.out _).mono ?_
  rintro e w10 ⟨rfl, he, hb⟩
  obtain ⟨x, hx⟩ : ∃ o, w9.heap.size = o := ⟨_, rfl⟩
  have E3 := Lib.hid (E2.out.below hb)
  rw [hx] at he hos2
  rw [hx]
  have X1 := Lib.hid he
  have HB10 := Lib.hid (below_next HB9.out hb)
  have hxg : w.heap.size ≤ x := by omega
  clear he hb hx
  go_wp2_with fail
  with_reducible refine (eye_num x 300 _ [3] _ _ X1.out (by decide)).mono ?_
  rintro e w11 ⟨rfl, hq⟩
  have X2 := Lib.hid hq.1
  have E4 := Lib.hid (E3.out.fr hq.2 (by omega))
  have HB11 := Lib.hid (hq.old HB10.out hxg)
  clear hq
  go_wp2_with fail
  with_reducible refine (eye_int x 3 (-2) _ [] _ _ X2.out (by decide) (by decide)).mono ?_
  rintro e w12 ⟨rfl, hq⟩
  have X3 := Lib.hid hq.1
  have E5 := Lib.hid (E4.out.fr hq.2 (by omega))
  have HB12 := Lib.hid (hq.old HB11.out hxg)
  clear hq
  go_wp2_with fail
  with_reducible refine (eyeEnd x _ _ _ X3.out).mono ?_
  rintro e w13 ⟨rfl, rfl⟩
  have z0 : endE [] false = 0 := rfl
  go_wp2_with fail
  with_reducible refine (eyeFailed o _ _ _ E5.out).mono ?_
  rintro e w13 ⟨rfl, rfl⟩
  go_wp2_with fail
  with_reducible refine (eyeEnd o _ _ _ E5.out).mono ?_
  rintro e w13 ⟨rfl, rfl⟩
  have z1 : endE [] true = 140 := rfl
  go_wp2_with fail
  go_ret
  exact ⟨by simp, HB12.out⟩

end Go.Proofs.Ytdlpnhplldnlbaa
