/-
  Own: a command with just what its kind has: a change; all kinds.
-/
import Derived.Test.YtjhffbhjiflfeaaDoorProg
import Derived.Test.YtjhffbhjiflfeaaDoorCmdO
import Derived.Test.YtjhffbhjiflfeaaDoorCmdS
namespace Go.Proofs.YtjhffbhjiflfeaaDoor
set_option linter.unusedVariables false
set_option linter.unusedSimpArgs false
set_option maxRecDepth 100000
open Go.RowKit

theorem spec_part (f : Nat → Int) : rowA specT 14 f = (partA cmdT 4 14 fun j => f (j - 4)).toArray := by
  refine congrArg List.toArray (List.map_congr_left fun i _ => ?_)
  show cellC (specT i) (f i) = cellC (cmdT (4 + i)) (f (4 + i - 4))
  rw [show 4 + i - 4 = i by omega, Nat.add_comm 4 i, specT]
theorem own_three {c : Nat → Int} (h0 : c 0 = 3) : rowA cmdT 24 (over (fun i => if i = 0 then 3 else 0) 4 14 fun j => over (fun i => if i = 0 then c 4 else 0) 3 9 (fun i => c (4 + i)) (j - 4)) = rowA cmdT 24 (ownC 3 c) :=
  rowA_congr fun i hi => by
    have hp : partOf 3 i = decide (i = 4 ∨ 7 ≤ i ∧ i < 16) := by
      have h : ∀ i, i < 24 → partOf 3 i = decide (i = 4 ∨ 7 ≤ i ∧ i < 16) := by decide
      exact h i hi
    simp only [over, ownC, hp, decide_eq_true_eq, h0]
    by_cases h : i = 0
    · subst h
      rw [if_neg (by omega), if_pos rfl, if_pos rfl]
    · rw [if_neg h, if_neg h]
      by_cases h1 : i = 4
      · subst h1
        rw [if_pos (by omega), if_neg (by omega), if_pos (by omega), if_pos (by omega)]
      · by_cases h2 : 7 ≤ i ∧ i < 16
        · rw [if_pos (by omega), if_pos (by omega), if_pos (by omega), show 4 + (i - 4) = i by omega]
        · rw [if_neg (by omega : ¬ (i = 4 ∨ 7 ≤ i ∧ i < 16))]
          by_cases h3 : 4 ≤ i ∧ i < 4 + 14
          · rw [if_pos h3, if_neg (by omega), if_neg (by omega)]
          · rw [if_neg h3]

set_option maxHeartbeats 16000000 in
theorem cmd_own_3 (c : Nat → Int) (w : World) (h0 : c 0 = 3) :
    Calls Tryd.prog 5 #[.agg (rowA cmdT 24 c)] w fun e w' => e = .returned (.agg (rowA cmdT 24 (ownC 3 c))) ∧ Below w.heap.size w w' := by
  have H0 := Lib.hid h0
  obtain ⟨b, hb⟩ : ∃ b, w.heap.size = b := ⟨_, rfl⟩
  rw [hb]
  have HBB := Lib.hid hb
  clear hb
  go_enter Tryd.func5, Tryd.ntmps5
  go_upto_region 1 with (fail)
  rw [zero_cmd]
  try rw [HBB.out]
  have a0 := (Blk.new w 32 (rowA cmdT 24 c)).alloc (.cells (rowA cmdT 24 fun _ => 0) 32)
  have a1 : Blk ((w.alloc (.cells (rowA cmdT 24 c) 32)).alloc (.cells (rowA cmdT 24 fun _ => 0) 32)) (w.heap.size + 1) 32 (rowA cmdT 24 fun _ => 0) := Blk.new_at (by simp)
  have ab : Below w.heap.size w ((w.alloc (.cells (rowA cmdT 24 c) 32)).alloc (.cells (rowA cmdT 24 fun _ => 0) 32)) := by go_grown
  have az : ((w.alloc (.cells (rowA cmdT 24 c) 32)).alloc (.cells (rowA cmdT 24 fun _ => 0) 32)).heap.size = w.heap.size + 2 := by simp
  generalize (w.alloc (.cells (rowA cmdT 24 c) 32)).alloc (.cells (rowA cmdT 24 fun _ => 0) 32) = w1 at a0 a1 ab az ⊢
  rw [HBB.out] at a0 a1 ab az
  have HA := Lib.hid (And.intro a0 (And.intro a1 (And.intro ab az)))
  have c0 : w1.cell? ⟨b, 0, none⟩ = some (.int .u8 3) := a0.get 0 (by rw [rowA_get (by decide), h0]; rfl)
  clear a0 a1 ab az h0
  go_upto_region 2 with (first | (refine wpList_store_part rfl 32 _ _ rfl _ 0 _ rfl rfl 32 _ (Blk.new_at (by simp)) (by simp) (by kernel_rfl) (by simp [Value.oneCell']) ?_; intro w2 hb2 hf2; rw [zero_cmd, kind_cmd, rowA_whole] at hb2; rw [zero_cmd] at hf2; rw [kind_cmd 3]; have H2 := Lib.hid (And.intro hb2 hf2); clear hb2 hf2))
  obtain ⟨g, hg⟩ : ∃ g, w1.heap.size = g := ⟨_, rfl⟩
  rw [hg] at H2 ⊢
  have hgz : g = b + 2 := by have := HA.out.2.2.2; omega
  have hz2 := H2.out.2.size
  rw [World.size_alloc, hg] at hz2
  have A0 : Hid (Blk w2 b 32 (rowA cmdT 24 c)) := Blk.fr (HA.out.1.alloc _) H2.out.2 (by omega)
  have A1 : Hid (Blk w2 (b + 1) 32 (rowA cmdT 24 fun _ => 0)) := Blk.fr (HA.out.2.1.alloc _) H2.out.2 (by omega)
  have AB : Hid (Below b w w2) := (HA.out.2.2.1.alloc (by omega) _).trans (H2.out.2.below (by rw [World.size_alloc]; omega) (fun k hk e => by omega))
  have G2 := Lib.hid H2.out.1
  replace c0 : w2.cell? ⟨b, 0, none⟩ = some (.int .u8 3) := (Blk.cell A0.out 0).trans ((HA.out.1.cell 0).symm.trans c0)
  clear hg hz2 H2 HA
  have HGZ := Lib.hid (And.intro hgz (show b ≤ w2.heap.size from Nat.le_of_lt A0.out.lt))
  clear hgz
  have c4 : w2.cell? ⟨b, 4, none⟩ = some (.int .i64 (c 4)) := A0.out.get 4 (rowA_get (by decide))
  have SW : Hid (Calls Tryd.prog 12 #[.agg #[.int .i64 (c 4), .int .i64 0, .bool false, .int .u64 0, .int .u64 0, .int .u64 0, .int .u64 0, .int .u64 0, .int .u64 0, .int .u64 0, .int .u64 0, .int .u64 0, .int .i64 0, .int .i64 0], .agg (partA cmdT 4 14 c).toArray] w2 fun e w' => e = .returned (.agg (partA cmdT 4 14 fun j => over (fun i => if i = 0 then c 4 else 0) 3 9 (fun i => c (4 + i)) (j - 4)).toArray) ∧ Below w2.heap.size w2 w') := by
    unfold Hid
    rw [← spec_part]
    exact spec_with (fun i => if i = 0 then c 4 else 0) (fun i => c (4 + i)) w2
  go_wp2_with (first | (refine wpList_load_part rfl 28 _ rfl b 4 rfl (partA cmdT 4 14 c) 32 _ _ A0.out (partA_of (by decide)) Tryd.underlying28 rfl (by rw [partA_len]; kernel_rfl) ?_))
  with_reducible refine SW.out.mono ?_
  rintro e w4 ⟨rfl, hb4⟩
  have G4 := Lib.hid (G2.out.next hb4)
  have A4 := Lib.hid (A1.out.next hb4)
  have AB4 := Lib.hid (AB.out.trans (hb4.mono HGZ.out.2))
  have HZ4 := Lib.hid (Nat.le_trans HGZ.out.2 hb4.size)
  clear hb4 SW A0 A1 AB G2 c0 c4
  go_upto_region 16 with (first | (refine wpList_store_part rfl 28 _ _ rfl g 4 _ rfl rfl 32 _ G4.out (by simp [rowA_size, partA_len]) (by rw [List.size_toArray, partA_len]; kernel_rfl) partA_one ?_; intro w5 hb5 hf5; rw [List.toList_toArray, rowA_over (by decide)] at hb5; have H3 := Lib.hid (And.intro hb5 (And.intro hf5 (And.intro (Blk.fr A4.out hf5 (by have := HGZ.out.1; omega)) (AB4.out.trans (hf5.below HZ4.out (fun k hk e => by have := HGZ.out.1; omega)))))); clear hb5 hf5))
  clear G4 A4 AB4
  go_wp2_with (first | (refine wpList_load_blk rfl 32 _ rfl g rfl 32 _ _ H3.out.1 Tryd.underlying32 rfl (by rw [rowA_size]; kernel_rfl) ?_) | (refine wpList_store_part rfl 32 _ _ rfl (b + 1) 0 _ rfl rfl 32 _ H3.out.2.2.1 (by rw [rowA_size, rowA_size]; decide) (by rw [rowA_size]; kernel_rfl) rowA_one ?_; intro w9 hb9 hf9; rw [rowA_whole] at hb9; have H9 := Lib.hid (And.intro hb9 ((H3.out.2.2.2).trans (hf9.below (Nat.le_trans HZ4.out H3.out.2.1.size) (fun k hk e => by omega)))); clear hb9 hf9))
  refine result_blk (k := 2) rfl rfl H9.out.1 Tryd.underlying32 rfl (by rw [rowA_size]; kernel_rfl) rfl ?_
  exact ⟨congrArg (fun a => Ending.returned (.agg a)) (own_three H0.out), H9.out.2⟩


theorem cmd_own (c : Nat → Int) (w : World) (k : Nat) (h0 : c 0 = k) :
    Calls Tryd.prog 5 #[.agg (rowA cmdT 24 c)] w fun e w' => e = .returned (.agg (rowA cmdT 24 (ownC k c))) ∧ Below w.heap.size w w' := by
  by_cases hk : 1 ≤ k ∧ k ≤ 7
  · rcases (show k = 1 ∨ k = 2 ∨ k = 3 ∨ k = 4 ∨ k = 5 ∨ k = 6 ∨ k = 7 by omega) with rfl | rfl | rfl | rfl | rfl | rfl | rfl
    · exact cmd_own_1 c w h0
    · exact cmd_own_2 c w h0
    · exact cmd_own_3 c w h0
    · exact cmd_own_4 c w h0
    · exact cmd_own_5 c w h0
    · exact cmd_own_6 c w h0
    · exact cmd_own_7 c w h0
  · refine cmd_own_none c w k k ?_ h0 (by omega)
    match k, hk with
    | 0, _ => rfl
    | k + 8, _ => rfl
    | 1, hk => exact absurd (by decide) hk
    | 2, hk => exact absurd (by decide) hk
    | 3, hk => exact absurd (by decide) hk
    | 4, hk => exact absurd (by decide) hk
    | 5, hk => exact absurd (by decide) hk
    | 6, hk => exact absurd (by decide) hk
    | 7, hk => exact absurd (by decide) hk

end Go.Proofs.YtjhffbhjiflfeaaDoor
