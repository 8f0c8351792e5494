/-
  The chapter's example of a link, as the laws' awake asks it.
-/
import Derived.Test.YtgkkhdnoikfppaaProg
import Derived.Test.YtgkkhdnoikfppaaLinkA
import Derived.Test.YtgkkhdnoikfppaaLinkB
namespace Go.Proofs.Ytgkkhdnoikfppaa
set_option linter.unusedVariables false
set_option linter.unusedSimpArgs false
open Go.RowKit

set_option maxHeartbeats 1000000 in
theorem linkAwake (w : World) : Calls Try.prog 4 #[] w fun e w' => e = .returned (.bool true) ∧ Below w.heap.size w w' := by
  have n1 : wrongN 0 300 10 1 = 0 := by decide
  have n2 : sendFrom 0 300 10 true + 1 * 256 = 3256 := by decide
  have n3 : upDiv 3256 300 = 11 := by decide
  have n4 : wrongN 3256 300 10 1 = 230 := by decide
  have n5 : wrongN 3256 300 11 1 = 0 := by decide
  have n6 : sendFrom 3256 300 11 false + 1 * 256 = 3512 := by decide
  have n7 : upDiv 3512 300 = 12 := by decide
  have n8 : wrongN 3512 300 12 1 = 0 := by decide
  have n9 : sendFrom 3512 300 12 false + 1 * 256 = 3768 := by decide
  have n10 : upDiv 3768 300 = 13 := by decide
  have m1 : (false || freeB 3256 300 11) = true := by decide
  have m2 : wrongN 3256 300 11 1 = 0 := by decide
  have m3 : sendFrom 3256 300 11 true + 1 * 256 = 3556 := by decide
  have m4 : upDiv 3556 300 = 12 := by decide
  have m5 : wrongN 3556 300 12 1 = 0 := by decide
  have m6 : sendFrom 3556 300 12 false + 1 * 256 = 3812 := by decide
  have m7 : upDiv 3812 300 = 13 := by decide
  have t1 : upDiv (lenCap 1 * 256) 300 = 1 := by decide
  have t2 : upDiv (lenCap 2 * 256) 300 = 2 := by decide
  have f1 : freeB 3768 300 12 = false := by decide
  have H := Lib.hid (And.intro n1 (And.intro n2 (And.intro n3 (And.intro n4 (And.intro n5 (And.intro n6 (And.intro n7 (And.intro n8 (And.intro n9 (And.intro n10 (And.intro m1 (And.intro m2 (And.intro m3 (And.intro m4 (And.intro m5 (And.intro m6 (And.intro m7 (And.intro t1 (And.intro t2 f1)))))))))))))))))))
  clear n1 n2 n3 n4 n5 n6 n7 n8 n9 n10 m1 m2 m3 m4 m5 m6 m7 t1 t2 f1
  go_enter Try.func4, Try.ntmps4
  go_wp2_with fail
  refine (new_made 300 _ (by omega) (by omega)).mono ?_
  rintro e w1 ⟨rfl, hw1⟩
  obtain ⟨b, hb⟩ : ∃ b, w.heap.size = b := ⟨_, rfl⟩
  have L1 : IsLink w1 b 300 0 true := by rw [hw1, ← hb]; exact Blk.new _ _ _
  have B1 : Below w.heap.size w w1 := by rw [hw1]; go_grown
  have HB := Lib.hid hb
  have hle : w.heap.size ≤ b := by omega
  rw [hb]
  clear hw1 hb
  go_wp2_with fail
  refine (new_none 0 _ (by omega) (.inl (by omega))).mono ?_
  rintro e w2 ⟨rfl, rfl⟩
  go_wp2_with fail
  refine (idles_made b 300 0 true _ L1 (by omega)).mono ?_
  rintro e w2 ⟨rfl, rfl⟩
  go_wp2_with fail
  refine (send_good b 300 0 10 1 true _ L1 (by omega) (by omega) (by omega) (by omega) (by omega) H.out.1).mono ?_
  rw [H.out.2.1, H.out.2.2.1]
  rintro e w2 ⟨rfl, L2, F2⟩
  have B2 := B1.trans (F2.below (B := w.heap.size) B1.size (fun k hk e => by omega))
  clear L1 F2 B1
  go_wp2_with fail
  refine (send_bad b 300 3256 10 1 false _ L2 (by omega) (by omega) (by omega) (by omega) (by rw [H.out.2.2.2.1]; decide)).mono ?_
  rw [H.out.2.2.2.1]
  rintro e w3 ⟨rfl, F3⟩
  have L3 : IsLink w3 b 300 3256 false := Blk.next L2 F3
  have B3 := below_next B2 F3
  clear L2 F3 B2
  go_wp2_with fail
  refine (copy_made b 300 3256 false _ L3).mono ?_
  rintro e w4 ⟨c, rfl, hc, M4, F4⟩
  have L4 : IsLink w4 b 300 3256 false := Blk.next L3 F4
  have B4 := below_next B3 F4
  have hbc : b < c := Nat.lt_of_lt_of_le (Blk.lt L3) hc
  clear L3 F4 B3 hc
  go_wp2_with fail
  refine (send_good b 300 3256 11 1 false _ L4 (by omega) (by omega) (by omega) (by omega) (by omega) H.out.2.2.2.2.1).mono ?_
  rw [H.out.2.2.2.2.2.1, H.out.2.2.2.2.2.2.1]
  rintro e w5 ⟨rfl, L5, F5⟩
  have M5 : IsLink w5 c 300 3256 false := Blk.fr M4 F5 (by omega)
  have B5 := B4.trans (F5.below (B := w.heap.size) B4.size (fun k hk e => by omega))
  clear L4 M4 F5 B4
  go_wp2_with fail
  refine (send_good b 300 3512 12 1 false _ L5 (by omega) (by omega) (by omega) (by omega) (by omega) H.out.2.2.2.2.2.2.2.1).mono ?_
  rw [H.out.2.2.2.2.2.2.2.2.1, H.out.2.2.2.2.2.2.2.2.2.1]
  rintro e w6 ⟨rfl, L6, F6⟩
  have M6 : IsLink w6 c 300 3256 false := Blk.fr M5 F6 (by omega)
  have B6 := B5.trans (F6.below (B := w.heap.size) B5.size (fun k hk e => by omega))
  clear L5 M5 F6 B5
  go_wp2_with fail
  refine (idle_made c 300 3256 11 false _ M6 (by omega) (by omega) (by omega) (by omega)).mono ?_
  rw [H.out.2.2.2.2.2.2.2.2.2.2.1]
  rintro e w7 ⟨rfl, M7, F7⟩
  have L7 : IsLink w7 b 300 3768 false := Blk.fr L6 F7 (by omega)
  have B7 := B6.trans (F7.below (B := w.heap.size) B6.size (fun k hk e => by omega))
  clear L6 M6 F7 B6
  go_wp2_with fail
  refine (send_good c 300 3256 11 1 true _ M7 (by omega) (by omega) (by omega) (by omega) (by omega) H.out.2.2.2.2.2.2.2.2.2.2.2.1).mono ?_
  rw [H.out.2.2.2.2.2.2.2.2.2.2.2.2.1, H.out.2.2.2.2.2.2.2.2.2.2.2.2.2.1]
  rintro e w8 ⟨rfl, M8, F8⟩
  have L8 : IsLink w8 b 300 3768 false := Blk.fr L7 F8 (by omega)
  have B8 := B7.trans (F8.below (B := w.heap.size) B7.size (fun k hk e => by omega))
  clear L7 M7 F8 B7
  go_wp2_with fail
  refine (send_good c 300 3556 12 1 false _ M8 (by omega) (by omega) (by omega) (by omega) (by omega) H.out.2.2.2.2.2.2.2.2.2.2.2.2.2.2.1).mono ?_
  rw [H.out.2.2.2.2.2.2.2.2.2.2.2.2.2.2.2.1, H.out.2.2.2.2.2.2.2.2.2.2.2.2.2.2.2.2.1]
  rintro e w9 ⟨rfl, M9, F9⟩
  have L9 : IsLink w9 b 300 3768 false := Blk.fr L8 F9 (by omega)
  have B9 := B8.trans (F9.below (B := w.heap.size) B8.size (fun k hk e => by omega))
  clear L8 M8 M9 F9 B8
  go_wp2_with fail
  refine (takes_made b 300 1 _ L9.c0 (by omega) (by omega) (by omega)).mono ?_
  rw [H.out.2.2.2.2.2.2.2.2.2.2.2.2.2.2.2.2.2.1]
  rintro e w10 ⟨rfl, m, hw⟩
  have L10 : IsLink w10 b 300 3768 false := by rw [hw]; exact L9
  have B10 : Below w.heap.size w w10 := by rw [hw]; exact below_drewN' B9 m
  clear hw L9 B9
  go_wp2_with fail
  refine (takes_made b 300 2 _ L10.c0 (by omega) (by omega) (by omega)).mono ?_
  rw [H.out.2.2.2.2.2.2.2.2.2.2.2.2.2.2.2.2.2.2.1]
  rintro e w11 ⟨rfl, m, hw⟩
  have L11 : IsLink w11 b 300 3768 false := by rw [hw]; exact L10
  have B11 : Below w.heap.size w w11 := by rw [hw]; exact below_drewN' B10 m
  clear hw L10 B10
  go_wp2_with fail
  refine (free_made b 300 3768 12 _ L11.c0 L11.c1 (by omega) (by omega) (by omega) (by omega)).mono ?_
  rw [H.out.2.2.2.2.2.2.2.2.2.2.2.2.2.2.2.2.2.2.2]
  rintro e w12 ⟨rfl, m, hw⟩
  have B12 : Below w.heap.size w w12 := by rw [hw]; exact below_drewN' B11 m
  clear hw
  go_wp2_with fail
  go_ret
  exact ⟨rfl, B12⟩

end Go.Proofs.Ytgkkhdnoikfppaa
