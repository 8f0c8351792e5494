/-
  Own: a command with just what its kind has.
-/
import Derived.Test.YtjhffbhjiflfeaaDoorProg
import Derived.Test.YtjhffbhjiflfeaaDoorCmdQ
namespace Go.Proofs.YtjhffbhjiflfeaaDoor
set_option linter.unusedVariables false
set_option linter.unusedSimpArgs false
set_option maxRecDepth 100000
open Go.RowKit

/-- A result that is a struct in a block of its own. -/
theorem result_blk {P : Program} {fn : Func} {R : Ending → World → Prop} {a : Act} {w : World} {k : Nat} {ty t : TypeId} {b : Nat} {cs : Array Value} {d : TypeDesc} (hf : fn.results = #[.cell k ty]) (hk : a.tmps.getD k undef = .pointer (some ⟨b, 0, none⟩)) (hb : Blk w b t cs)
    (hu : P.underlying ty = some d) (hd : d.isRow = true) (hi : (P.info? ty).map (·.size) = some cs.size) (hdf : a.defers = []) (h : R (.returned (.agg cs)) w) : bodyPost P fn R .ret a w := by
  refine bodyPost_ret (v := .agg cs) ?_ hdf h
  have e := run_loadVar_row (P := P) w b t ty cs (0, 0) d hb hu (by cases d <;> first | rfl | cases hd) hi
  rw [Array.getD_eq_getD_getElem?] at hk
  simp [results, hf, hk, asAddr, e]
theorem zero_cmd : (#[.int .u8 0, .int .u64 0, .int .i64 0, .int .u64 0, .int .i64 0, .int .i64 0, .bool false, .int .u64 0, .int .u64 0, .int .u64 0, .int .u64 0, .int .u64 0, .int .u64 0, .int .u64 0, .int .u64 0, .int .u64 0, .int .i64 0, .int .i64 0, .int .i64 0, .int .u64 0, .int .i64 0, .int .i64 0, .int .u64 0, .int .u64 0] : Array Value) = rowA cmdT 24 fun _ => 0 := rfl
theorem kind_cmd (k : Int) : (#[.int .u8 k, .int .u64 0, .int .i64 0, .int .u64 0, .int .i64 0, .int .i64 0, .bool false, .int .u64 0, .int .u64 0, .int .u64 0, .int .u64 0, .int .u64 0, .int .u64 0, .int .u64 0, .int .u64 0, .int .u64 0, .int .i64 0, .int .i64 0, .int .i64 0, .int .u64 0, .int .i64 0, .int .i64 0, .int .u64 0, .int .u64 0] : Array Value) = rowA cmdT 24 fun i => if i = 0 then k else 0 := rfl
theorem own_over {k o m : Nat} {c : Nat → Int} (hp : ∀ i, i < 24 → partOf k i = decide (o ≤ i ∧ i < o + m)) (ho : 0 < o) (h0 : c 0 = k) : rowA cmdT 24 (over (fun i => if i = 0 then (k : Int) else 0) o m c) = rowA cmdT 24 (ownC k c) :=
  rowA_congr fun i hi => by
    simp only [over, ownC, hp i hi, decide_eq_true_eq, h0]
    by_cases h : i = 0
    · subst h
      rw [if_neg (by omega), if_pos rfl, if_pos rfl]
    · rw [if_neg h, if_neg h]
theorem own_upd {k p : Nat} {c : Nat → Int} (hp : ∀ i, i < 24 → partOf k i = decide (i = p)) (ho : 0 < p) (h0 : c 0 = k) : rowA cmdT 24 (upd (fun i => if i = 0 then (k : Int) else 0) p (c p)) = rowA cmdT 24 (ownC k c) :=
  rowA_congr fun i hi => by
    simp only [upd, ownC, hp i hi, decide_eq_true_eq, h0]
    by_cases h : i = 0
    · subst h
      rw [if_neg (by omega), if_pos rfl, if_pos rfl]
    · rw [if_neg h, if_neg h]
      by_cases h2 : i = p
      · rw [if_pos h2, if_pos h2, h2]
      · rw [if_neg h2, if_neg h2]
theorem own_none {k : Int} {n : Nat} {c : Nat → Int} (hn : slotsOf n = []) (h0 : c 0 = k) : rowA cmdT 24 (fun i => if i = 0 then k else 0) = rowA cmdT 24 (ownC n c) :=
  rowA_congr fun i hi => by
    simp only [ownC, partOf, hn, List.any_nil, h0]
    rfl
theorem own_eq {k : Nat} {c d : Nat → Int} (h : ∀ i, i < 24 → d i = ownC k c i) : rowA cmdT 24 d = rowA cmdT 24 (ownC k c) := rowA_congr h

set_option maxHeartbeats 16000000 in
theorem cmd_own_1 (c : Nat → Int) (w : World) (h0 : c 0 = 1) :
    Calls Tryd.prog 5 #[.agg (rowA cmdT 24 c)] w fun e w' => e = .returned (.agg (rowA cmdT 24 (ownC 1 c))) ∧ Below w.heap.size w w' := by
  have H0 := Lib.hid h0
  obtain ⟨b, hb⟩ : ∃ b, w.heap.size = b := ⟨_, rfl⟩
  rw [hb]
  have HBB := Lib.hid hb
  clear hb
  go_enter Tryd.func5, Tryd.ntmps5
  go_upto_region 1 with (fail)
  rw [zero_cmd]
  try rw [HBB.out]
  have a0 := (Blk.new w 32 (rowA cmdT 24 c)).alloc (.cells (rowA cmdT 24 fun _ => 0) 32)
  have a1 : Blk ((w.alloc (.cells (rowA cmdT 24 c) 32)).alloc (.cells (rowA cmdT 24 fun _ => 0) 32)) (w.heap.size + 1) 32 (rowA cmdT 24 fun _ => 0) := Blk.new_at (by simp)
  have ab : Below w.heap.size w ((w.alloc (.cells (rowA cmdT 24 c) 32)).alloc (.cells (rowA cmdT 24 fun _ => 0) 32)) := by go_grown
  have az : ((w.alloc (.cells (rowA cmdT 24 c) 32)).alloc (.cells (rowA cmdT 24 fun _ => 0) 32)).heap.size = w.heap.size + 2 := by simp
  generalize (w.alloc (.cells (rowA cmdT 24 c) 32)).alloc (.cells (rowA cmdT 24 fun _ => 0) 32) = w1 at a0 a1 ab az ⊢
  rw [HBB.out] at a0 a1 ab az
  have HA := Lib.hid (And.intro a0 (And.intro a1 (And.intro ab az)))
  have c0 : w1.cell? ⟨b, 0, none⟩ = some (.int .u8 1) := a0.get 0 (by rw [rowA_get (by decide), h0]; rfl)
  clear a0 a1 ab az h0
  go_upto_region 2 with (first | (refine wpList_store_part rfl 32 _ _ rfl _ 0 _ rfl rfl 32 _ (Blk.new_at (by simp)) (by simp) (by kernel_rfl) (by simp [Value.oneCell']) ?_; intro w2 hb2 hf2; rw [zero_cmd, kind_cmd, rowA_whole] at hb2; rw [zero_cmd] at hf2; rw [kind_cmd 1]; have H2 := Lib.hid (And.intro hb2 hf2); clear hb2 hf2))
  obtain ⟨g, hg⟩ : ∃ g, w1.heap.size = g := ⟨_, rfl⟩
  rw [hg] at H2 ⊢
  have hgz : g = b + 2 := by have := HA.out.2.2.2; omega
  have hz2 := H2.out.2.size
  rw [World.size_alloc, hg] at hz2
  have A0 : Hid (Blk w2 b 32 (rowA cmdT 24 c)) := Blk.fr (HA.out.1.alloc _) H2.out.2 (by omega)
  have A1 : Hid (Blk w2 (b + 1) 32 (rowA cmdT 24 fun _ => 0)) := Blk.fr (HA.out.2.1.alloc _) H2.out.2 (by omega)
  have AB : Hid (Below b w w2) := (HA.out.2.2.1.alloc (by omega) _).trans (H2.out.2.below (by rw [World.size_alloc]; omega) (fun k hk e => by omega))
  have G2 := Lib.hid H2.out.1
  replace c0 : w2.cell? ⟨b, 0, none⟩ = some (.int .u8 1) := (Blk.cell A0.out 0).trans ((HA.out.1.cell 0).symm.trans c0)
  clear hg hz2 H2 HA
  have HGZ := Lib.hid (And.intro hgz (show b ≤ w2.heap.size from Nat.le_of_lt A0.out.lt))
  clear hgz
  go_upto_region 16 with (first | (refine wpList_load_part rfl 24 _ rfl b 1 rfl (partA cmdT 1 3 c) 32 _ _ A0.out (partA_of (by decide)) Tryd.underlying24 rfl (by rw [partA_len]; kernel_rfl) ?_) | (refine wpList_store_part rfl 24 _ _ rfl g 1 _ rfl rfl 32 _ G2.out (by simp [rowA_size, partA_len]) (by rw [List.size_toArray, partA_len]; kernel_rfl) partA_one ?_; intro w3 hb3 hf3; rw [List.toList_toArray, rowA_over (by decide)] at hb3; have H3 := Lib.hid (And.intro hb3 (And.intro hf3 (And.intro (Blk.fr A1.out hf3 (by have := HGZ.out.1; omega)) (AB.out.trans (hf3.below HGZ.out.2 (fun k hk e => by have := HGZ.out.1; omega)))))); clear hb3 hf3))
  clear G2 A1 A0 AB c0
  go_wp2_with (first | (refine wpList_load_blk rfl 32 _ rfl g rfl 32 _ _ H3.out.1 Tryd.underlying32 rfl (by rw [rowA_size]; kernel_rfl) ?_) | (refine wpList_store_part rfl 32 _ _ rfl (b + 1) 0 _ rfl rfl 32 _ H3.out.2.2.1 (by rw [rowA_size, rowA_size]; decide) (by rw [rowA_size]; kernel_rfl) rowA_one ?_; intro w9 hb9 hf9; rw [rowA_whole] at hb9; have H9 := Lib.hid (And.intro hb9 ((H3.out.2.2.2).trans (hf9.below (Nat.le_trans HGZ.out.2 H3.out.2.1.size) (fun k hk e => by omega)))); clear hb9 hf9))
  refine result_blk (k := 2) rfl rfl H9.out.1 Tryd.underlying32 rfl (by rw [rowA_size]; kernel_rfl) rfl ?_
  exact ⟨congrArg (fun a => Ending.returned (.agg a)) (own_over (k := 1) (o := 1) (m := 3) (by decide) (by decide) H0.out), H9.out.2⟩

set_option maxHeartbeats 16000000 in
theorem cmd_own_2 (c : Nat → Int) (w : World) (h0 : c 0 = 2) :
    Calls Tryd.prog 5 #[.agg (rowA cmdT 24 c)] w fun e w' => e = .returned (.agg (rowA cmdT 24 (ownC 2 c))) ∧ Below w.heap.size w w' := by
  have H0 := Lib.hid h0
  obtain ⟨b, hb⟩ : ∃ b, w.heap.size = b := ⟨_, rfl⟩
  rw [hb]
  have HBB := Lib.hid hb
  clear hb
  go_enter Tryd.func5, Tryd.ntmps5
  go_upto_region 1 with (fail)
  rw [zero_cmd]
  try rw [HBB.out]
  have a0 := (Blk.new w 32 (rowA cmdT 24 c)).alloc (.cells (rowA cmdT 24 fun _ => 0) 32)
  have a1 : Blk ((w.alloc (.cells (rowA cmdT 24 c) 32)).alloc (.cells (rowA cmdT 24 fun _ => 0) 32)) (w.heap.size + 1) 32 (rowA cmdT 24 fun _ => 0) := Blk.new_at (by simp)
  have ab : Below w.heap.size w ((w.alloc (.cells (rowA cmdT 24 c) 32)).alloc (.cells (rowA cmdT 24 fun _ => 0) 32)) := by go_grown
  have az : ((w.alloc (.cells (rowA cmdT 24 c) 32)).alloc (.cells (rowA cmdT 24 fun _ => 0) 32)).heap.size = w.heap.size + 2 := by simp
  generalize (w.alloc (.cells (rowA cmdT 24 c) 32)).alloc (.cells (rowA cmdT 24 fun _ => 0) 32) = w1 at a0 a1 ab az ⊢
  rw [HBB.out] at a0 a1 ab az
  have HA := Lib.hid (And.intro a0 (And.intro a1 (And.intro ab az)))
  have c0 : w1.cell? ⟨b, 0, none⟩ = some (.int .u8 2) := a0.get 0 (by rw [rowA_get (by decide), h0]; rfl)
  clear a0 a1 ab az h0
  go_upto_region 2 with (first | (refine wpList_store_part rfl 32 _ _ rfl _ 0 _ rfl rfl 32 _ (Blk.new_at (by simp)) (by simp) (by kernel_rfl) (by simp [Value.oneCell']) ?_; intro w2 hb2 hf2; rw [zero_cmd, kind_cmd, rowA_whole] at hb2; rw [zero_cmd] at hf2; rw [kind_cmd 2]; have H2 := Lib.hid (And.intro hb2 hf2); clear hb2 hf2))
  obtain ⟨g, hg⟩ : ∃ g, w1.heap.size = g := ⟨_, rfl⟩
  rw [hg] at H2 ⊢
  have hgz : g = b + 2 := by have := HA.out.2.2.2; omega
  have hz2 := H2.out.2.size
  rw [World.size_alloc, hg] at hz2
  have A0 : Hid (Blk w2 b 32 (rowA cmdT 24 c)) := Blk.fr (HA.out.1.alloc _) H2.out.2 (by omega)
  have A1 : Hid (Blk w2 (b + 1) 32 (rowA cmdT 24 fun _ => 0)) := Blk.fr (HA.out.2.1.alloc _) H2.out.2 (by omega)
  have AB : Hid (Below b w w2) := (HA.out.2.2.1.alloc (by omega) _).trans (H2.out.2.below (by rw [World.size_alloc]; omega) (fun k hk e => by omega))
  have G2 := Lib.hid H2.out.1
  replace c0 : w2.cell? ⟨b, 0, none⟩ = some (.int .u8 2) := (Blk.cell A0.out 0).trans ((HA.out.1.cell 0).symm.trans c0)
  clear hg hz2 H2 HA
  have HGZ := Lib.hid (And.intro hgz (show b ≤ w2.heap.size from Nat.le_of_lt A0.out.lt))
  clear hgz
  go_upto_region 16 with (first | (refine wpList_load_part rfl 28 _ rfl b 4 rfl (partA cmdT 4 14 c) 32 _ _ A0.out (partA_of (by decide)) Tryd.underlying28 rfl (by rw [partA_len]; kernel_rfl) ?_) | (refine wpList_store_part rfl 28 _ _ rfl g 4 _ rfl rfl 32 _ G2.out (by simp [rowA_size, partA_len]) (by rw [List.size_toArray, partA_len]; kernel_rfl) partA_one ?_; intro w3 hb3 hf3; rw [List.toList_toArray, rowA_over (by decide)] at hb3; have H3 := Lib.hid (And.intro hb3 (And.intro hf3 (And.intro (Blk.fr A1.out hf3 (by have := HGZ.out.1; omega)) (AB.out.trans (hf3.below HGZ.out.2 (fun k hk e => by have := HGZ.out.1; omega)))))); clear hb3 hf3))
  clear G2 A1 A0 AB c0
  go_wp2_with (first | (refine wpList_load_blk rfl 32 _ rfl g rfl 32 _ _ H3.out.1 Tryd.underlying32 rfl (by rw [rowA_size]; kernel_rfl) ?_) | (refine wpList_store_part rfl 32 _ _ rfl (b + 1) 0 _ rfl rfl 32 _ H3.out.2.2.1 (by rw [rowA_size, rowA_size]; decide) (by rw [rowA_size]; kernel_rfl) rowA_one ?_; intro w9 hb9 hf9; rw [rowA_whole] at hb9; have H9 := Lib.hid (And.intro hb9 ((H3.out.2.2.2).trans (hf9.below (Nat.le_trans HGZ.out.2 H3.out.2.1.size) (fun k hk e => by omega)))); clear hb9 hf9))
  refine result_blk (k := 2) rfl rfl H9.out.1 Tryd.underlying32 rfl (by rw [rowA_size]; kernel_rfl) rfl ?_
  exact ⟨congrArg (fun a => Ending.returned (.agg a)) (own_over (k := 2) (o := 4) (m := 14) (by decide) (by decide) H0.out), H9.out.2⟩

set_option maxHeartbeats 16000000 in
theorem cmd_own_5 (c : Nat → Int) (w : World) (h0 : c 0 = 5) :
    Calls Tryd.prog 5 #[.agg (rowA cmdT 24 c)] w fun e w' => e = .returned (.agg (rowA cmdT 24 (ownC 5 c))) ∧ Below w.heap.size w w' := by
  have H0 := Lib.hid h0
  obtain ⟨b, hb⟩ : ∃ b, w.heap.size = b := ⟨_, rfl⟩
  rw [hb]
  have HBB := Lib.hid hb
  clear hb
  go_enter Tryd.func5, Tryd.ntmps5
  go_upto_region 1 with (fail)
  rw [zero_cmd]
  try rw [HBB.out]
  have a0 := (Blk.new w 32 (rowA cmdT 24 c)).alloc (.cells (rowA cmdT 24 fun _ => 0) 32)
  have a1 : Blk ((w.alloc (.cells (rowA cmdT 24 c) 32)).alloc (.cells (rowA cmdT 24 fun _ => 0) 32)) (w.heap.size + 1) 32 (rowA cmdT 24 fun _ => 0) := Blk.new_at (by simp)
  have ab : Below w.heap.size w ((w.alloc (.cells (rowA cmdT 24 c) 32)).alloc (.cells (rowA cmdT 24 fun _ => 0) 32)) := by go_grown
  have az : ((w.alloc (.cells (rowA cmdT 24 c) 32)).alloc (.cells (rowA cmdT 24 fun _ => 0) 32)).heap.size = w.heap.size + 2 := by simp
  generalize (w.alloc (.cells (rowA cmdT 24 c) 32)).alloc (.cells (rowA cmdT 24 fun _ => 0) 32) = w1 at a0 a1 ab az ⊢
  rw [HBB.out] at a0 a1 ab az
  have HA := Lib.hid (And.intro a0 (And.intro a1 (And.intro ab az)))
  have c0 : w1.cell? ⟨b, 0, none⟩ = some (.int .u8 5) := a0.get 0 (by rw [rowA_get (by decide), h0]; rfl)
  clear a0 a1 ab az h0
  go_upto_region 2 with (first | (refine wpList_store_part rfl 32 _ _ rfl _ 0 _ rfl rfl 32 _ (Blk.new_at (by simp)) (by simp) (by kernel_rfl) (by simp [Value.oneCell']) ?_; intro w2 hb2 hf2; rw [zero_cmd, kind_cmd, rowA_whole] at hb2; rw [zero_cmd] at hf2; rw [kind_cmd 5]; have H2 := Lib.hid (And.intro hb2 hf2); clear hb2 hf2))
  obtain ⟨g, hg⟩ : ∃ g, w1.heap.size = g := ⟨_, rfl⟩
  rw [hg] at H2 ⊢
  have hgz : g = b + 2 := by have := HA.out.2.2.2; omega
  have hz2 := H2.out.2.size
  rw [World.size_alloc, hg] at hz2
  have A0 : Hid (Blk w2 b 32 (rowA cmdT 24 c)) := Blk.fr (HA.out.1.alloc _) H2.out.2 (by omega)
  have A1 : Hid (Blk w2 (b + 1) 32 (rowA cmdT 24 fun _ => 0)) := Blk.fr (HA.out.2.1.alloc _) H2.out.2 (by omega)
  have AB : Hid (Below b w w2) := (HA.out.2.2.1.alloc (by omega) _).trans (H2.out.2.below (by rw [World.size_alloc]; omega) (fun k hk e => by omega))
  have G2 := Lib.hid H2.out.1
  replace c0 : w2.cell? ⟨b, 0, none⟩ = some (.int .u8 5) := (Blk.cell A0.out 0).trans ((HA.out.1.cell 0).symm.trans c0)
  clear hg hz2 H2 HA
  have HGZ := Lib.hid (And.intro hgz (show b ≤ w2.heap.size from Nat.le_of_lt A0.out.lt))
  clear hgz
  go_upto_region 16 with (first | (refine wpList_load_part rfl 30 _ rfl b 19 rfl (partA cmdT 19 4 c) 32 _ _ A0.out (partA_of (by decide)) Tryd.underlying30 rfl (by rw [partA_len]; kernel_rfl) ?_) | (refine wpList_store_part rfl 30 _ _ rfl g 19 _ rfl rfl 32 _ G2.out (by simp [rowA_size, partA_len]) (by rw [List.size_toArray, partA_len]; kernel_rfl) partA_one ?_; intro w3 hb3 hf3; rw [List.toList_toArray, rowA_over (by decide)] at hb3; have H3 := Lib.hid (And.intro hb3 (And.intro hf3 (And.intro (Blk.fr A1.out hf3 (by have := HGZ.out.1; omega)) (AB.out.trans (hf3.below HGZ.out.2 (fun k hk e => by have := HGZ.out.1; omega)))))); clear hb3 hf3))
  clear G2 A1 A0 AB c0
  go_wp2_with (first | (refine wpList_load_blk rfl 32 _ rfl g rfl 32 _ _ H3.out.1 Tryd.underlying32 rfl (by rw [rowA_size]; kernel_rfl) ?_) | (refine wpList_store_part rfl 32 _ _ rfl (b + 1) 0 _ rfl rfl 32 _ H3.out.2.2.1 (by rw [rowA_size, rowA_size]; decide) (by rw [rowA_size]; kernel_rfl) rowA_one ?_; intro w9 hb9 hf9; rw [rowA_whole] at hb9; have H9 := Lib.hid (And.intro hb9 ((H3.out.2.2.2).trans (hf9.below (Nat.le_trans HGZ.out.2 H3.out.2.1.size) (fun k hk e => by omega)))); clear hb9 hf9))
  refine result_blk (k := 2) rfl rfl H9.out.1 Tryd.underlying32 rfl (by rw [rowA_size]; kernel_rfl) rfl ?_
  exact ⟨congrArg (fun a => Ending.returned (.agg a)) (own_over (k := 5) (o := 19) (m := 4) (by decide) (by decide) H0.out), H9.out.2⟩

set_option maxHeartbeats 16000000 in
theorem cmd_own_4 (c : Nat → Int) (w : World) (h0 : c 0 = 4) :
    Calls Tryd.prog 5 #[.agg (rowA cmdT 24 c)] w fun e w' => e = .returned (.agg (rowA cmdT 24 (ownC 4 c))) ∧ Below w.heap.size w w' := by
  have H0 := Lib.hid h0
  obtain ⟨b, hb⟩ : ∃ b, w.heap.size = b := ⟨_, rfl⟩
  rw [hb]
  have HBB := Lib.hid hb
  clear hb
  go_enter Tryd.func5, Tryd.ntmps5
  go_upto_region 1 with (fail)
  rw [zero_cmd]
  try rw [HBB.out]
  have a0 := (Blk.new w 32 (rowA cmdT 24 c)).alloc (.cells (rowA cmdT 24 fun _ => 0) 32)
  have a1 : Blk ((w.alloc (.cells (rowA cmdT 24 c) 32)).alloc (.cells (rowA cmdT 24 fun _ => 0) 32)) (w.heap.size + 1) 32 (rowA cmdT 24 fun _ => 0) := Blk.new_at (by simp)
  have ab : Below w.heap.size w ((w.alloc (.cells (rowA cmdT 24 c) 32)).alloc (.cells (rowA cmdT 24 fun _ => 0) 32)) := by go_grown
  have az : ((w.alloc (.cells (rowA cmdT 24 c) 32)).alloc (.cells (rowA cmdT 24 fun _ => 0) 32)).heap.size = w.heap.size + 2 := by simp
  generalize (w.alloc (.cells (rowA cmdT 24 c) 32)).alloc (.cells (rowA cmdT 24 fun _ => 0) 32) = w1 at a0 a1 ab az ⊢
  rw [HBB.out] at a0 a1 ab az
  have HA := Lib.hid (And.intro a0 (And.intro a1 (And.intro ab az)))
  have c0 : w1.cell? ⟨b, 0, none⟩ = some (.int .u8 4) := a0.get 0 (by rw [rowA_get (by decide), h0]; rfl)
  clear a0 a1 ab az h0
  go_upto_region 2 with (first | (refine wpList_store_part rfl 32 _ _ rfl _ 0 _ rfl rfl 32 _ (Blk.new_at (by simp)) (by simp) (by kernel_rfl) (by simp [Value.oneCell']) ?_; intro w2 hb2 hf2; rw [zero_cmd, kind_cmd, rowA_whole] at hb2; rw [zero_cmd] at hf2; rw [kind_cmd 4]; have H2 := Lib.hid (And.intro hb2 hf2); clear hb2 hf2))
  obtain ⟨g, hg⟩ : ∃ g, w1.heap.size = g := ⟨_, rfl⟩
  rw [hg] at H2 ⊢
  have hgz : g = b + 2 := by have := HA.out.2.2.2; omega
  have hz2 := H2.out.2.size
  rw [World.size_alloc, hg] at hz2
  have A0 : Hid (Blk w2 b 32 (rowA cmdT 24 c)) := Blk.fr (HA.out.1.alloc _) H2.out.2 (by omega)
  have A1 : Hid (Blk w2 (b + 1) 32 (rowA cmdT 24 fun _ => 0)) := Blk.fr (HA.out.2.1.alloc _) H2.out.2 (by omega)
  have AB : Hid (Below b w w2) := (HA.out.2.2.1.alloc (by omega) _).trans (H2.out.2.below (by rw [World.size_alloc]; omega) (fun k hk e => by omega))
  have G2 := Lib.hid H2.out.1
  replace c0 : w2.cell? ⟨b, 0, none⟩ = some (.int .u8 4) := (Blk.cell A0.out 0).trans ((HA.out.1.cell 0).symm.trans c0)
  clear hg hz2 H2 HA
  have HGZ := Lib.hid (And.intro hgz (show b ≤ w2.heap.size from Nat.le_of_lt A0.out.lt))
  clear hgz
  have c1 : w2.cell? ⟨b, 18, none⟩ = some (.int .i64 (c 18)) := A0.out.get 18 (rowA_get (by decide))
  have c2 : w2.cell? ⟨g, 18, none⟩ = some (.int .i64 0) := G2.out.get 18 (rowA_get (by decide))
  have f2 := Blk.frozen G2.out 18
  have H3 : Hid (Blk (w2.setCell ⟨g, 18, none⟩ (.int .i64 (c 18))) g 32 (rowA cmdT 24 (upd (fun i => if i = 0 then 4 else 0) 18 (c 18))) ∧ Blk (w2.setCell ⟨g, 18, none⟩ (.int .i64 (c 18))) (b + 1) 32 (rowA cmdT 24 fun _ => 0) ∧ Below b w (w2.setCell ⟨g, 18, none⟩ (.int .i64 (c 18))) ∧ b ≤ (w2.setCell ⟨g, 18, none⟩ (.int .i64 (c 18))).heap.size) :=
    ⟨by rw [← rowA_set]; exact G2.out.put 18 _, A1.out.far (p := ⟨g, 18, none⟩) (by have := HGZ.out.1; show b + 1 ≠ g; omega) _, AB.out.setCell (p := ⟨g, 18, none⟩) (by have := HGZ.out.1; show b ≤ g; omega) _, by have := HGZ.out.2; simpa using this⟩
  go_upto_region 16 with (fail)
  generalize w2.setCell ⟨g, 18, none⟩ (.int .i64 (c 18)) = w3 at H3 ⊢
  clear G2 A1 A0 AB c0 c1 c2 f2
  go_wp2_with (first | (refine wpList_load_blk rfl 32 _ rfl g rfl 32 _ _ H3.out.1 Tryd.underlying32 rfl (by rw [rowA_size]; kernel_rfl) ?_) | (refine wpList_store_part rfl 32 _ _ rfl (b + 1) 0 _ rfl rfl 32 _ H3.out.2.1 (by rw [rowA_size, rowA_size]; decide) (by rw [rowA_size]; kernel_rfl) rowA_one ?_; intro w9 hb9 hf9; rw [rowA_whole] at hb9; have H9 := Lib.hid (And.intro hb9 ((H3.out.2.2.1).trans (hf9.below H3.out.2.2.2 (fun k hk e => by omega)))); clear hb9 hf9))
  refine result_blk (k := 2) rfl rfl H9.out.1 Tryd.underlying32 rfl (by rw [rowA_size]; kernel_rfl) rfl ?_
  exact ⟨congrArg (fun a => Ending.returned (.agg a)) (own_upd (k := 4) (p := 18) (by decide) (by decide) H0.out), H9.out.2⟩

set_option maxHeartbeats 16000000 in
theorem cmd_own_7 (c : Nat → Int) (w : World) (h0 : c 0 = 7) :
    Calls Tryd.prog 5 #[.agg (rowA cmdT 24 c)] w fun e w' => e = .returned (.agg (rowA cmdT 24 (ownC 7 c))) ∧ Below w.heap.size w w' := by
  have H0 := Lib.hid h0
  obtain ⟨b, hb⟩ : ∃ b, w.heap.size = b := ⟨_, rfl⟩
  rw [hb]
  have HBB := Lib.hid hb
  clear hb
  go_enter Tryd.func5, Tryd.ntmps5
  go_upto_region 1 with (fail)
  rw [zero_cmd]
  try rw [HBB.out]
  have a0 := (Blk.new w 32 (rowA cmdT 24 c)).alloc (.cells (rowA cmdT 24 fun _ => 0) 32)
  have a1 : Blk ((w.alloc (.cells (rowA cmdT 24 c) 32)).alloc (.cells (rowA cmdT 24 fun _ => 0) 32)) (w.heap.size + 1) 32 (rowA cmdT 24 fun _ => 0) := Blk.new_at (by simp)
  have ab : Below w.heap.size w ((w.alloc (.cells (rowA cmdT 24 c) 32)).alloc (.cells (rowA cmdT 24 fun _ => 0) 32)) := by go_grown
  have az : ((w.alloc (.cells (rowA cmdT 24 c) 32)).alloc (.cells (rowA cmdT 24 fun _ => 0) 32)).heap.size = w.heap.size + 2 := by simp
  generalize (w.alloc (.cells (rowA cmdT 24 c) 32)).alloc (.cells (rowA cmdT 24 fun _ => 0) 32) = w1 at a0 a1 ab az ⊢
  rw [HBB.out] at a0 a1 ab az
  have HA := Lib.hid (And.intro a0 (And.intro a1 (And.intro ab az)))
  have c0 : w1.cell? ⟨b, 0, none⟩ = some (.int .u8 7) := a0.get 0 (by rw [rowA_get (by decide), h0]; rfl)
  clear a0 a1 ab az h0
  go_upto_region 2 with (first | (refine wpList_store_part rfl 32 _ _ rfl _ 0 _ rfl rfl 32 _ (Blk.new_at (by simp)) (by simp) (by kernel_rfl) (by simp [Value.oneCell']) ?_; intro w2 hb2 hf2; rw [zero_cmd, kind_cmd, rowA_whole] at hb2; rw [zero_cmd] at hf2; rw [kind_cmd 7]; have H2 := Lib.hid (And.intro hb2 hf2); clear hb2 hf2))
  obtain ⟨g, hg⟩ : ∃ g, w1.heap.size = g := ⟨_, rfl⟩
  rw [hg] at H2 ⊢
  have hgz : g = b + 2 := by have := HA.out.2.2.2; omega
  have hz2 := H2.out.2.size
  rw [World.size_alloc, hg] at hz2
  have A0 : Hid (Blk w2 b 32 (rowA cmdT 24 c)) := Blk.fr (HA.out.1.alloc _) H2.out.2 (by omega)
  have A1 : Hid (Blk w2 (b + 1) 32 (rowA cmdT 24 fun _ => 0)) := Blk.fr (HA.out.2.1.alloc _) H2.out.2 (by omega)
  have AB : Hid (Below b w w2) := (HA.out.2.2.1.alloc (by omega) _).trans (H2.out.2.below (by rw [World.size_alloc]; omega) (fun k hk e => by omega))
  have G2 := Lib.hid H2.out.1
  replace c0 : w2.cell? ⟨b, 0, none⟩ = some (.int .u8 7) := (Blk.cell A0.out 0).trans ((HA.out.1.cell 0).symm.trans c0)
  clear hg hz2 H2 HA
  have HGZ := Lib.hid (And.intro hgz (show b ≤ w2.heap.size from Nat.le_of_lt A0.out.lt))
  clear hgz
  have c1 : w2.cell? ⟨b, 18, none⟩ = some (.int .i64 (c 18)) := A0.out.get 18 (rowA_get (by decide))
  have c2 : w2.cell? ⟨g, 18, none⟩ = some (.int .i64 0) := G2.out.get 18 (rowA_get (by decide))
  have f2 := Blk.frozen G2.out 18
  have H3 : Hid (Blk (w2.setCell ⟨g, 18, none⟩ (.int .i64 (c 18))) g 32 (rowA cmdT 24 (upd (fun i => if i = 0 then 7 else 0) 18 (c 18))) ∧ Blk (w2.setCell ⟨g, 18, none⟩ (.int .i64 (c 18))) (b + 1) 32 (rowA cmdT 24 fun _ => 0) ∧ Below b w (w2.setCell ⟨g, 18, none⟩ (.int .i64 (c 18))) ∧ b ≤ (w2.setCell ⟨g, 18, none⟩ (.int .i64 (c 18))).heap.size) :=
    ⟨by rw [← rowA_set]; exact G2.out.put 18 _, A1.out.far (p := ⟨g, 18, none⟩) (by have := HGZ.out.1; show b + 1 ≠ g; omega) _, AB.out.setCell (p := ⟨g, 18, none⟩) (by have := HGZ.out.1; show b ≤ g; omega) _, by have := HGZ.out.2; simpa using this⟩
  go_upto_region 16 with (fail)
  generalize w2.setCell ⟨g, 18, none⟩ (.int .i64 (c 18)) = w3 at H3 ⊢
  clear G2 A1 A0 AB c0 c1 c2 f2
  go_wp2_with (first | (refine wpList_load_blk rfl 32 _ rfl g rfl 32 _ _ H3.out.1 Tryd.underlying32 rfl (by rw [rowA_size]; kernel_rfl) ?_) | (refine wpList_store_part rfl 32 _ _ rfl (b + 1) 0 _ rfl rfl 32 _ H3.out.2.1 (by rw [rowA_size, rowA_size]; decide) (by rw [rowA_size]; kernel_rfl) rowA_one ?_; intro w9 hb9 hf9; rw [rowA_whole] at hb9; have H9 := Lib.hid (And.intro hb9 ((H3.out.2.2.1).trans (hf9.below H3.out.2.2.2 (fun k hk e => by omega)))); clear hb9 hf9))
  refine result_blk (k := 2) rfl rfl H9.out.1 Tryd.underlying32 rfl (by rw [rowA_size]; kernel_rfl) rfl ?_
  exact ⟨congrArg (fun a => Ending.returned (.agg a)) (own_upd (k := 7) (p := 18) (by decide) (by decide) H0.out), H9.out.2⟩

set_option maxHeartbeats 16000000 in
theorem cmd_own_6 (c : Nat → Int) (w : World) (h0 : c 0 = 6) :
    Calls Tryd.prog 5 #[.agg (rowA cmdT 24 c)] w fun e w' => e = .returned (.agg (rowA cmdT 24 (ownC 6 c))) ∧ Below w.heap.size w w' := by
  have H0 := Lib.hid h0
  obtain ⟨b, hb⟩ : ∃ b, w.heap.size = b := ⟨_, rfl⟩
  rw [hb]
  have HBB := Lib.hid hb
  clear hb
  go_enter Tryd.func5, Tryd.ntmps5
  go_upto_region 1 with (fail)
  rw [zero_cmd]
  try rw [HBB.out]
  have a0 := (Blk.new w 32 (rowA cmdT 24 c)).alloc (.cells (rowA cmdT 24 fun _ => 0) 32)
  have a1 : Blk ((w.alloc (.cells (rowA cmdT 24 c) 32)).alloc (.cells (rowA cmdT 24 fun _ => 0) 32)) (w.heap.size + 1) 32 (rowA cmdT 24 fun _ => 0) := Blk.new_at (by simp)
  have ab : Below w.heap.size w ((w.alloc (.cells (rowA cmdT 24 c) 32)).alloc (.cells (rowA cmdT 24 fun _ => 0) 32)) := by go_grown
  have az : ((w.alloc (.cells (rowA cmdT 24 c) 32)).alloc (.cells (rowA cmdT 24 fun _ => 0) 32)).heap.size = w.heap.size + 2 := by simp
  generalize (w.alloc (.cells (rowA cmdT 24 c) 32)).alloc (.cells (rowA cmdT 24 fun _ => 0) 32) = w1 at a0 a1 ab az ⊢
  rw [HBB.out] at a0 a1 ab az
  have HA := Lib.hid (And.intro a0 (And.intro a1 (And.intro ab az)))
  have c0 : w1.cell? ⟨b, 0, none⟩ = some (.int .u8 6) := a0.get 0 (by rw [rowA_get (by decide), h0]; rfl)
  clear a0 a1 ab az h0
  go_upto_region 2 with (first | (refine wpList_store_part rfl 32 _ _ rfl _ 0 _ rfl rfl 32 _ (Blk.new_at (by simp)) (by simp) (by kernel_rfl) (by simp [Value.oneCell']) ?_; intro w2 hb2 hf2; rw [zero_cmd, kind_cmd, rowA_whole] at hb2; rw [zero_cmd] at hf2; rw [kind_cmd 6]; have H2 := Lib.hid (And.intro hb2 hf2); clear hb2 hf2))
  obtain ⟨g, hg⟩ : ∃ g, w1.heap.size = g := ⟨_, rfl⟩
  rw [hg] at H2 ⊢
  have hgz : g = b + 2 := by have := HA.out.2.2.2; omega
  have hz2 := H2.out.2.size
  rw [World.size_alloc, hg] at hz2
  have A0 : Hid (Blk w2 b 32 (rowA cmdT 24 c)) := Blk.fr (HA.out.1.alloc _) H2.out.2 (by omega)
  have A1 : Hid (Blk w2 (b + 1) 32 (rowA cmdT 24 fun _ => 0)) := Blk.fr (HA.out.2.1.alloc _) H2.out.2 (by omega)
  have AB : Hid (Below b w w2) := (HA.out.2.2.1.alloc (by omega) _).trans (H2.out.2.below (by rw [World.size_alloc]; omega) (fun k hk e => by omega))
  have G2 := Lib.hid H2.out.1
  replace c0 : w2.cell? ⟨b, 0, none⟩ = some (.int .u8 6) := (Blk.cell A0.out 0).trans ((HA.out.1.cell 0).symm.trans c0)
  clear hg hz2 H2 HA
  have HGZ := Lib.hid (And.intro hgz (show b ≤ w2.heap.size from Nat.le_of_lt A0.out.lt))
  clear hgz
  have c1 : w2.cell? ⟨b, 23, none⟩ = some (.int .u64 (c 23)) := A0.out.get 23 (rowA_get (by decide))
  have c2 : w2.cell? ⟨g, 23, none⟩ = some (.int .u64 0) := G2.out.get 23 (rowA_get (by decide))
  have f2 := Blk.frozen G2.out 23
  have H3 : Hid (Blk (w2.setCell ⟨g, 23, none⟩ (.int .u64 (c 23))) g 32 (rowA cmdT 24 (upd (fun i => if i = 0 then 6 else 0) 23 (c 23))) ∧ Blk (w2.setCell ⟨g, 23, none⟩ (.int .u64 (c 23))) (b + 1) 32 (rowA cmdT 24 fun _ => 0) ∧ Below b w (w2.setCell ⟨g, 23, none⟩ (.int .u64 (c 23))) ∧ b ≤ (w2.setCell ⟨g, 23, none⟩ (.int .u64 (c 23))).heap.size) :=
    ⟨by rw [← rowA_set]; exact G2.out.put 23 _, A1.out.far (p := ⟨g, 23, none⟩) (by have := HGZ.out.1; show b + 1 ≠ g; omega) _, AB.out.setCell (p := ⟨g, 23, none⟩) (by have := HGZ.out.1; show b ≤ g; omega) _, by have := HGZ.out.2; simpa using this⟩
  go_upto_region 16 with (fail)
  generalize w2.setCell ⟨g, 23, none⟩ (.int .u64 (c 23)) = w3 at H3 ⊢
  clear G2 A1 A0 AB c0 c1 c2 f2
  go_wp2_with (first | (refine wpList_load_blk rfl 32 _ rfl g rfl 32 _ _ H3.out.1 Tryd.underlying32 rfl (by rw [rowA_size]; kernel_rfl) ?_) | (refine wpList_store_part rfl 32 _ _ rfl (b + 1) 0 _ rfl rfl 32 _ H3.out.2.1 (by rw [rowA_size, rowA_size]; decide) (by rw [rowA_size]; kernel_rfl) rowA_one ?_; intro w9 hb9 hf9; rw [rowA_whole] at hb9; have H9 := Lib.hid (And.intro hb9 ((H3.out.2.2.1).trans (hf9.below H3.out.2.2.2 (fun k hk e => by omega)))); clear hb9 hf9))
  refine result_blk (k := 2) rfl rfl H9.out.1 Tryd.underlying32 rfl (by rw [rowA_size]; kernel_rfl) rfl ?_
  exact ⟨congrArg (fun a => Ending.returned (.agg a)) (own_upd (k := 6) (p := 23) (by decide) (by decide) H0.out), H9.out.2⟩

set_option maxHeartbeats 16000000 in
theorem cmd_own_none (c : Nat → Int) (w : World) (k : Int) (n : Nat) (hn : slotsOf n = []) (h0 : c 0 = k) (hk : k < 1 ∨ 7 < k) :
    Calls Tryd.prog 5 #[.agg (rowA cmdT 24 c)] w fun e w' => e = .returned (.agg (rowA cmdT 24 (ownC n c))) ∧ Below w.heap.size w w' := by
  have H0 := Lib.hid (And.intro hn h0)
  have k1 : (k == 1) = false := beq_eq_false_iff_ne.2 (by omega)
  have k2 : (k == 2) = false := beq_eq_false_iff_ne.2 (by omega)
  have k3 : (k == 3) = false := beq_eq_false_iff_ne.2 (by omega)
  have k4 : (k == 4) = false := beq_eq_false_iff_ne.2 (by omega)
  have k5 : (k == 5) = false := beq_eq_false_iff_ne.2 (by omega)
  have k6 : (k == 6) = false := beq_eq_false_iff_ne.2 (by omega)
  have k7 : (k == 7) = false := beq_eq_false_iff_ne.2 (by omega)
  clear hn hk
  obtain ⟨b, hb⟩ : ∃ b, w.heap.size = b := ⟨_, rfl⟩
  rw [hb]
  have HBB := Lib.hid hb
  clear hb
  go_enter Tryd.func5, Tryd.ntmps5
  go_upto_region 1 with (fail)
  rw [zero_cmd]
  try rw [HBB.out]
  have a0 := (Blk.new w 32 (rowA cmdT 24 c)).alloc (.cells (rowA cmdT 24 fun _ => 0) 32)
  have a1 : Blk ((w.alloc (.cells (rowA cmdT 24 c) 32)).alloc (.cells (rowA cmdT 24 fun _ => 0) 32)) (w.heap.size + 1) 32 (rowA cmdT 24 fun _ => 0) := Blk.new_at (by simp)
  have ab : Below w.heap.size w ((w.alloc (.cells (rowA cmdT 24 c) 32)).alloc (.cells (rowA cmdT 24 fun _ => 0) 32)) := by go_grown
  have az : ((w.alloc (.cells (rowA cmdT 24 c) 32)).alloc (.cells (rowA cmdT 24 fun _ => 0) 32)).heap.size = w.heap.size + 2 := by simp
  generalize (w.alloc (.cells (rowA cmdT 24 c) 32)).alloc (.cells (rowA cmdT 24 fun _ => 0) 32) = w1 at a0 a1 ab az ⊢
  rw [HBB.out] at a0 a1 ab az
  have HA := Lib.hid (And.intro a0 (And.intro a1 (And.intro ab az)))
  have c0 : w1.cell? ⟨b, 0, none⟩ = some (.int .u8 k) := a0.get 0 (by rw [rowA_get (by decide), h0]; rfl)
  clear a0 a1 ab az h0
  go_upto_region 2 with (first | (refine wpList_store_part rfl 32 _ _ rfl _ 0 _ rfl rfl 32 _ (Blk.new_at (by simp)) (by simp) (by kernel_rfl) (by simp [Value.oneCell']) ?_; intro w2 hb2 hf2; rw [zero_cmd, kind_cmd, rowA_whole] at hb2; rw [zero_cmd] at hf2; rw [kind_cmd k]; have H2 := Lib.hid (And.intro hb2 hf2); clear hb2 hf2))
  obtain ⟨g, hg⟩ : ∃ g, w1.heap.size = g := ⟨_, rfl⟩
  rw [hg] at H2 ⊢
  have hgz : g = b + 2 := by have := HA.out.2.2.2; omega
  have hz2 := H2.out.2.size
  rw [World.size_alloc, hg] at hz2
  have A0 : Hid (Blk w2 b 32 (rowA cmdT 24 c)) := Blk.fr (HA.out.1.alloc _) H2.out.2 (by omega)
  have A1 : Hid (Blk w2 (b + 1) 32 (rowA cmdT 24 fun _ => 0)) := Blk.fr (HA.out.2.1.alloc _) H2.out.2 (by omega)
  have AB : Hid (Below b w w2) := (HA.out.2.2.1.alloc (by omega) _).trans (H2.out.2.below (by rw [World.size_alloc]; omega) (fun k hk e => by omega))
  have G2 := Lib.hid H2.out.1
  replace c0 : w2.cell? ⟨b, 0, none⟩ = some (.int .u8 k) := (Blk.cell A0.out 0).trans ((HA.out.1.cell 0).symm.trans c0)
  clear hg hz2 H2 HA
  have HGZ := Lib.hid (And.intro hgz (show b ≤ w2.heap.size from Nat.le_of_lt A0.out.lt))
  clear hgz
  go_upto_region 16 with (fail)
  clear A0 c0
  go_wp2_with (first | (refine wpList_load_blk rfl 32 _ rfl g rfl 32 _ _ G2.out Tryd.underlying32 rfl (by rw [rowA_size]; kernel_rfl) ?_) | (refine wpList_store_part rfl 32 _ _ rfl (b + 1) 0 _ rfl rfl 32 _ A1.out (by rw [rowA_size, rowA_size]; decide) (by rw [rowA_size]; kernel_rfl) rowA_one ?_; intro w9 hb9 hf9; rw [rowA_whole] at hb9; have H9 := Lib.hid (And.intro hb9 ((AB.out).trans (hf9.below HGZ.out.2 (fun k hk e => by omega)))); clear hb9 hf9))
  refine result_blk (k := 2) rfl rfl H9.out.1 Tryd.underlying32 rfl (by rw [rowA_size]; kernel_rfl) rfl ?_
  exact ⟨congrArg (fun a => Ending.returned (.agg a)) (own_none H0.out.1 H0.out.2), H9.out.2⟩

end Go.Proofs.YtjhffbhjiflfeaaDoor
