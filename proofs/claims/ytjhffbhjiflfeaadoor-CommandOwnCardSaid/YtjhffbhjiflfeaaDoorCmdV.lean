/-
  ReadCommand and ReadReply: what bytes are.
-/
import Derived.Test.YtjhffbhjiflfeaaDoorProg
import Derived.Test.YtjhffbhjiflfeaaDoorCmdT
namespace Go.Proofs.YtjhffbhjiflfeaaDoor
set_option linter.unusedVariables false
set_option linter.unusedSimpArgs false
set_option maxRecDepth 100000
open Go.RowKit

theorem zero_reply : (#[.int .i64 0, .int .u64 0, .int .u64 0, .int .u64 0, .int .u64 0, .int .u64 0, .int .u64 0, .int .u64 0, .int .u64 0, .int .u64 0] : Array Value) = rowA replyT 10 fun _ => 0 := rfl

/-- Two results, of which the first one is a struct in a block of its own. -/
theorem result_blk2 {P : Program} {fn : Func} {R : Ending → World → Prop} {a : Act} {w : World} {k j : Nat} {ty t : TypeId} {b : Nat} {cs : Array Value} {d : TypeDesc} {v : Value} (hf : fn.results = #[.cell k ty, .tmp j]) (hk : a.tmps.getD k undef = .pointer (some ⟨b, 0, none⟩)) (hj : a.tmps.getD j undef = v) (hb : Blk w b t cs)
    (hu : P.underlying ty = some d) (hd : d.isRow = true) (hi : (P.info? ty).map (·.size) = some cs.size) (hdf : a.defers = []) (h : R (.returned (.tuple #[.agg cs, v])) w) : bodyPost P fn R .ret a w := by
  refine bodyPost_ret (v := .tuple #[.agg cs, v]) ?_ hdf h
  have e := run_loadVar_row (P := P) w b t ty cs (0, 0) d hb hu (by cases d <;> first | rfl | cases hd) hi
  rw [Array.getD_eq_getD_getElem?] at hk hj
  simp [results, hf, hk, hj, asAddr, e]

/-- The result's block, the eye, what is read into. -/
structure RC (T : TypeId) (Z : Array Value) (w W : World) (r g q : Nat) (l : List Nat) (f : Bool) (cs : Array Value) : Prop where
  res : Blk W r T Z
  eye : EyeAt W g l f
  blk : Blk W q T cs
  below : Below r w W
  rg : r ≠ g
  rq : r ≠ q
  gq : g ≠ q
  rlg : r ≤ g
  rlq : r ≤ q
section
variable {T : TypeId} {Z : Array Value} {w W W' : World} {r g q : Nat} {l l' : List Nat} {f f' : Bool} {cs cs' : Array Value}
theorem RC.next (h : RC T Z w W r g q l f cs) (hb : Below W.heap.size W W') : RC T Z w W' r g q l f cs :=
  ⟨h.res.next hb, h.eye.below hb, h.blk.next hb, h.below.trans (hb.mono (Nat.le_of_lt h.res.lt)), h.rg, h.rq, h.gq, h.rlg, h.rlq⟩
theorem RC.read (h : RC T Z w W r g q l f cs) {R : Array Value × List Nat × Bool} (k : ReadTo g q T R W W') : RC T Z w W' r g q R.2.1 R.2.2 R.1 where
  res := h.res.fr k.fr (by rintro (e | e); exact h.rg e; exact h.rq e)
  eye := k.eye
  blk := k.blk
  below := h.below.trans (k.fr.below (Nat.le_of_lt h.res.lt) (fun j hj e => by have := h.rlg; have := h.rlq; rcases e with e | e <;> omega))
  rg := h.rg
  rq := h.rq
  gq := h.gq
  rlg := h.rlg
  rlq := h.rlq
theorem RC.look (h : RC T Z w W r g q l f cs) (k : EyeTo g l' f' W W') : RC T Z w W' r g q l' f' cs where
  res := h.res.fr k.2 h.rg
  eye := k.1
  blk := h.blk.fr k.2 (Ne.symm h.gq)
  below := h.below.trans (k.2.below (Nat.le_of_lt h.res.lt) (fun j hj e => by have := h.rlg; omega))
  rg := h.rg
  rq := h.rq
  gq := h.gq
  rlg := h.rlg
  rlq := h.rlq
/-- The result is stored. -/
theorem RC.put {X : Array Value} (h : RC T Z w W r g q l f cs) (hb : Blk W' r T X) (hf : Fr (fun k => k = r) W W') : RC T X w W' r g q l f cs where
  res := hb
  eye := h.eye.fr hf (Ne.symm h.rg)
  blk := h.blk.fr hf (Ne.symm h.rq)
  below := h.below.trans (hf.below (Nat.le_of_lt h.res.lt) (fun j hj e => by omega))
  rg := h.rg
  rq := h.rq
  gq := h.gq
  rlg := h.rlg
  rlq := h.rlq
end

set_option maxHeartbeats 16000000 in
theorem cmd_read_no (l : List Nat) (w : World) (hl : Bytes l) (hkk : byteR l = 0 ∨ 7 < byteR l) :
    Calls Tryd.prog 10 #[.string (bs l)] w fun e w' => e = .returned (.tuple #[.agg (rowA cmdT 24 fun _ => 0), .int .i64 140]) ∧ Below w.heap.size w w' := by
  have HBY := Lib.hid hl
  clear hl
  obtain ⟨r, hr⟩ : ∃ r, w.heap.size = r := ⟨_, rfl⟩
  rw [hr]
  have HR := Lib.hid hr
  clear hr
  go_enter Tryd.func10, Tryd.ntmps10
  go_upto_region 1 with (fail)
  rw [zero_cmd]
  try rw [HR.out]
  have a0 := Blk.new w 32 (rowA cmdT 24 fun _ => 0)
  have ab : Below w.heap.size w (w.alloc (.cells (rowA cmdT 24 fun _ => 0) 32)) := by go_grown
  have az : (w.alloc (.cells (rowA cmdT 24 fun _ => 0) 32)).heap.size = w.heap.size + 1 := by simp
  rw [HR.out] at a0 ab az
  generalize w.alloc (.cells (rowA cmdT 24 fun _ => 0) 32) = w1 at a0 ab az ⊢
  have HA := Lib.hid (And.intro a0 (And.intro ab az))
  clear a0 ab az
  go_wp2_with fail
  with_reducible refine (eyeOpen l w1 HBY.out).mono ?_
  rintro e w2 ⟨rfl, he, hb2⟩
  have H2 := Lib.hid (And.intro he hb2)
  clear he hb2
  obtain ⟨g, hg⟩ : ∃ g, w1.heap.size = g := ⟨_, rfl⟩
  rw [hg] at H2 ⊢
  have HG := Lib.hid hg
  clear hg
  go_wp2_with fail
  with_reducible refine (eyeByte g l false w2 H2.out.1).mono ?_
  rintro e w3 ⟨rfl, he, hf⟩
  have H3 := Lib.hid (And.intro he hf)
  clear he hf
  obtain ⟨k, hk⟩ : ∃ k, byteR l = k := ⟨_, rfl⟩
  rw [hk] at hkk ⊢
  have HK := Lib.hid (And.intro hkk hk)
  clear hkk hk
  go_upto_region 3 with (first | (refine wpList_store_part rfl 32 _ _ rfl _ 0 _ rfl rfl 32 _ (Blk.new_at (by simp)) (by simp) (by kernel_rfl) (by simp [Value.oneCell']) ?_; intro w4 hb4 hf4; rw [zero_cmd, kind_cmd, rowA_whole] at hb4; rw [zero_cmd] at hf4; rw [kind_cmd (k : Int)]; have H4 := Lib.hid (And.intro hb4 hf4); clear hb4 hf4))
  obtain ⟨q, hq⟩ : ∃ q, w3.heap.size = q := ⟨_, rfl⟩
  rw [hq] at H4 ⊢
  have HC : Hid (RC 32 (rowA cmdT 24 fun _ => 0) w w4 r g q (byteL l) (byteF l false) (rowA cmdT 24 fun i => if i = 0 then (k : Int) else 0)) := by
    have z1 := HA.out.2.2
    have z2 := HG.out
    have z3 := H3.out.2.size
    have z4 := H2.out.1.1.lt
    have rl : r < w2.heap.size := by omega
    have b2 : Below r w w2 := HA.out.2.1.trans (H2.out.2.mono (by omega))
    have b3 : Below r w w3 := b2.trans (H3.out.2.below (by omega) (fun j hj e => by omega))
    exact ⟨((((HA.out.1.below H2.out.2 (show r < g by omega)).fr H3.out.2 (by omega)).alloc _).fr H4.out.2 (by omega)), (H3.out.1.below ((Below.refl _ _).alloc (Nat.le_refl _) _)).fr H4.out.2 (by omega), H4.out.1, (b3.alloc (by omega) _).trans (H4.out.2.below (by rw [World.size_alloc]; omega) (fun j hj e => by omega)), by omega, by omega, by omega, by omega, by omega⟩
  clear hq H4 H3 H2 HA
  have ck : w4.cell? ⟨q, 0, none⟩ = some (.int .u8 (k : Int)) := HC.out.blk.get 0 (rowA_get (by decide))
  go_wp2_with fail
  with_reducible refine (cmd_known k false (by have := HK.out.1; exact (decide_eq_false (by omega)).symm) w4).mono ?_
  rintro e wx ⟨rfl, rfl⟩
  clear ck
  go_wp2_with (first | (refine wpList_store_part rfl 32 _ _ rfl r 0 _ rfl rfl 32 _ HC.out.res (by simp [rowA_size]) (by first | (rw [rowA_size]; kernel_rfl) | kernel_rfl) (by first | exact rowA_one | simp [Value.oneCell']) ?_; intro w9 hb9 hf9; rw [zero_cmd, rowA_whole] at hb9; have H9 := Lib.hid (HC.out.put hb9 hf9); clear hb9 hf9))
  refine result_blk2 (k := 2) (j := 3) rfl rfl rfl H9.out.res Tryd.underlying32 rfl (by rw [rowA_size]; kernel_rfl) rfl ?_
  exact ⟨rfl, H9.out.below⟩

set_option maxHeartbeats 16000000 in
theorem cmd_read_end (l : List Nat) (w : World) (hl : Bytes l) (hkk : 1 ≤ byteR l ∧ byteR l ≤ 7)
    (hE : endE (reads (slotsOf (byteR l)) (rowA cmdT 24 fun i => if i = 0 then ((byteR l : Nat) : Int) else 0) (byteL l) (byteF l false)).2.1 (reads (slotsOf (byteR l)) (rowA cmdT 24 fun i => if i = 0 then ((byteR l : Nat) : Int) else 0) (byteL l) (byteF l false)).2.2 = 140) :
    Calls Tryd.prog 10 #[.string (bs l)] w fun e w' => e = .returned (.tuple #[.agg (rowA cmdT 24 fun _ => 0), .int .i64 140]) ∧ Below w.heap.size w w' := by
  obtain ⟨R, hR⟩ : ∃ R, reads (slotsOf (byteR l)) (rowA cmdT 24 fun i => if i = 0 then ((byteR l : Nat) : Int) else 0) (byteL l) (byteF l false) = R := ⟨_, rfl⟩
  rw [hR] at hE
  skip
  have HE := Lib.hid (And.intro hE hR)
  clear hE hR
  have HBY := Lib.hid hl
  clear hl
  obtain ⟨r, hr⟩ : ∃ r, w.heap.size = r := ⟨_, rfl⟩
  rw [hr]
  have HR := Lib.hid hr
  clear hr
  go_enter Tryd.func10, Tryd.ntmps10
  go_upto_region 1 with (fail)
  rw [zero_cmd]
  try rw [HR.out]
  have a0 := Blk.new w 32 (rowA cmdT 24 fun _ => 0)
  have ab : Below w.heap.size w (w.alloc (.cells (rowA cmdT 24 fun _ => 0) 32)) := by go_grown
  have az : (w.alloc (.cells (rowA cmdT 24 fun _ => 0) 32)).heap.size = w.heap.size + 1 := by simp
  rw [HR.out] at a0 ab az
  generalize w.alloc (.cells (rowA cmdT 24 fun _ => 0) 32) = w1 at a0 ab az ⊢
  have HA := Lib.hid (And.intro a0 (And.intro ab az))
  clear a0 ab az
  go_wp2_with fail
  with_reducible refine (eyeOpen l w1 HBY.out).mono ?_
  rintro e w2 ⟨rfl, he, hb2⟩
  have H2 := Lib.hid (And.intro he hb2)
  clear he hb2
  obtain ⟨g, hg⟩ : ∃ g, w1.heap.size = g := ⟨_, rfl⟩
  rw [hg] at H2 ⊢
  have HG := Lib.hid hg
  clear hg
  go_wp2_with fail
  with_reducible refine (eyeByte g l false w2 H2.out.1).mono ?_
  rintro e w3 ⟨rfl, he, hf⟩
  have H3 := Lib.hid (And.intro he hf)
  clear he hf
  obtain ⟨k, hk⟩ : ∃ k, byteR l = k := ⟨_, rfl⟩
  rw [hk] at hkk ⊢
  have HK := Lib.hid (And.intro hkk hk)
  clear hkk hk
  go_upto_region 3 with (first | (refine wpList_store_part rfl 32 _ _ rfl _ 0 _ rfl rfl 32 _ (Blk.new_at (by simp)) (by simp) (by kernel_rfl) (by simp [Value.oneCell']) ?_; intro w4 hb4 hf4; rw [zero_cmd, kind_cmd, rowA_whole] at hb4; rw [zero_cmd] at hf4; rw [kind_cmd (k : Int)]; have H4 := Lib.hid (And.intro hb4 hf4); clear hb4 hf4))
  obtain ⟨q, hq⟩ : ∃ q, w3.heap.size = q := ⟨_, rfl⟩
  rw [hq] at H4 ⊢
  have HC : Hid (RC 32 (rowA cmdT 24 fun _ => 0) w w4 r g q (byteL l) (byteF l false) (rowA cmdT 24 fun i => if i = 0 then (k : Int) else 0)) := by
    have z1 := HA.out.2.2
    have z2 := HG.out
    have z3 := H3.out.2.size
    have z4 := H2.out.1.1.lt
    have rl : r < w2.heap.size := by omega
    have b2 : Below r w w2 := HA.out.2.1.trans (H2.out.2.mono (by omega))
    have b3 : Below r w w3 := b2.trans (H3.out.2.below (by omega) (fun j hj e => by omega))
    exact ⟨((((HA.out.1.below H2.out.2 (show r < g by omega)).fr H3.out.2 (by omega)).alloc _).fr H4.out.2 (by omega)), (H3.out.1.below ((Below.refl _ _).alloc (Nat.le_refl _) _)).fr H4.out.2 (by omega), H4.out.1, (b3.alloc (by omega) _).trans (H4.out.2.below (by rw [World.size_alloc]; omega) (fun j hj e => by omega)), by omega, by omega, by omega, by omega, by omega⟩
  clear hq H4 H3 H2 HA
  have ck : w4.cell? ⟨q, 0, none⟩ = some (.int .u8 (k : Int)) := HC.out.blk.get 0 (rowA_get (by decide))
  rw [HK.out.2] at HE
  go_wp2_with fail
  with_reducible refine (cmd_known k true (by have := HK.out.1; exact (decide_eq_true (by omega)).symm) w4).mono ?_
  rintro e wx ⟨rfl, rfl⟩
  have HCL := Lib.hid (And.intro HC.out.eye.1.lt HC.out.blk.lt)
  have PT := Lib.hid (cmd_parts k q w4 HK.out.1.1 HK.out.1.2 ck)
  clear ck
  go_wp2_with fail
  with_reducible refine PT.out.mono ?_
  rintro e w5 ⟨bp, cp, rfl, hbp, hpp, hb5⟩
  have HP := Lib.hid (And.intro hpp hbp)
  replace HC := Lib.hid (HC.out.next hb5)
  have HAP : Hid (bp ≠ g ∧ bp ≠ q) := ⟨by have := HCL.out.1; omega, by have := HCL.out.2; omega⟩
  clear hpp hbp hb5 PT
  have RD := Lib.hid (cmd_read g q 32 (rowA cmdT 24 fun i => if i = 0 then (k : Int) else 0) (slotsOf k) (byteL l) (byteF l false) bp cp w5 (slots_len k) HP.out.1 HAP.out.1 HAP.out.2 HC.out.gq HC.out.blk HC.out.eye (fun s hs => by rw [rowA_size]; exact (slots_ok k s hs).2.2.1))
  rw [HE.out.2, HE.out.1] at RD
  go_wp2_with fail
  with_reducible refine RD.out.mono ?_
  rintro e w6 ⟨rfl, hrd⟩
  replace HC := Lib.hid (HC.out.read hrd)
  clear hrd RD
  go_wp2_with (first | (refine wpList_store_part rfl 32 _ _ rfl r 0 _ rfl rfl 32 _ HC.out.res (by simp [rowA_size]) (by first | (rw [rowA_size]; kernel_rfl) | kernel_rfl) (by first | exact rowA_one | simp [Value.oneCell']) ?_; intro w9 hb9 hf9; rw [zero_cmd, rowA_whole] at hb9; have H9 := Lib.hid (HC.out.put hb9 hf9); clear hb9 hf9))
  refine result_blk2 (k := 2) (j := 3) rfl rfl rfl H9.out.res Tryd.underlying32 rfl (by rw [rowA_size]; kernel_rfl) rfl ?_
  exact ⟨rfl, H9.out.below⟩

set_option maxHeartbeats 16000000 in
theorem cmd_read_ok (l : List Nat) (w : World) (hl : Bytes l) (hkk : 1 ≤ byteR l ∧ byteR l ≤ 7)
    (hE : endE (reads (slotsOf (byteR l)) (rowA cmdT 24 fun i => if i = 0 then ((byteR l : Nat) : Int) else 0) (byteL l) (byteF l false)).2.1 (reads (slotsOf (byteR l)) (rowA cmdT 24 fun i => if i = 0 then ((byteR l : Nat) : Int) else 0) (byteL l) (byteF l false)).2.2 = 0) :
    Calls Tryd.prog 10 #[.string (bs l)] w fun e w' => e = .returned (.tuple #[.agg (reads (slotsOf (byteR l)) (rowA cmdT 24 fun i => if i = 0 then ((byteR l : Nat) : Int) else 0) (byteL l) (byteF l false)).1, .int .i64 0]) ∧ Below w.heap.size w w' := by
  obtain ⟨R, hR⟩ : ∃ R, reads (slotsOf (byteR l)) (rowA cmdT 24 fun i => if i = 0 then ((byteR l : Nat) : Int) else 0) (byteL l) (byteF l false) = R := ⟨_, rfl⟩
  rw [hR] at hE
  rw [hR]
  have HE := Lib.hid (And.intro hE hR)
  clear hE hR
  have HBY := Lib.hid hl
  clear hl
  obtain ⟨r, hr⟩ : ∃ r, w.heap.size = r := ⟨_, rfl⟩
  rw [hr]
  have HR := Lib.hid hr
  clear hr
  go_enter Tryd.func10, Tryd.ntmps10
  go_upto_region 1 with (fail)
  rw [zero_cmd]
  try rw [HR.out]
  have a0 := Blk.new w 32 (rowA cmdT 24 fun _ => 0)
  have ab : Below w.heap.size w (w.alloc (.cells (rowA cmdT 24 fun _ => 0) 32)) := by go_grown
  have az : (w.alloc (.cells (rowA cmdT 24 fun _ => 0) 32)).heap.size = w.heap.size + 1 := by simp
  rw [HR.out] at a0 ab az
  generalize w.alloc (.cells (rowA cmdT 24 fun _ => 0) 32) = w1 at a0 ab az ⊢
  have HA := Lib.hid (And.intro a0 (And.intro ab az))
  clear a0 ab az
  go_wp2_with fail
  with_reducible refine (eyeOpen l w1 HBY.out).mono ?_
  rintro e w2 ⟨rfl, he, hb2⟩
  have H2 := Lib.hid (And.intro he hb2)
  clear he hb2
  obtain ⟨g, hg⟩ : ∃ g, w1.heap.size = g := ⟨_, rfl⟩
  rw [hg] at H2 ⊢
  have HG := Lib.hid hg
  clear hg
  go_wp2_with fail
  with_reducible refine (eyeByte g l false w2 H2.out.1).mono ?_
  rintro e w3 ⟨rfl, he, hf⟩
  have H3 := Lib.hid (And.intro he hf)
  clear he hf
  obtain ⟨k, hk⟩ : ∃ k, byteR l = k := ⟨_, rfl⟩
  rw [hk] at hkk ⊢
  have HK := Lib.hid (And.intro hkk hk)
  clear hkk hk
  go_upto_region 3 with (first | (refine wpList_store_part rfl 32 _ _ rfl _ 0 _ rfl rfl 32 _ (Blk.new_at (by simp)) (by simp) (by kernel_rfl) (by simp [Value.oneCell']) ?_; intro w4 hb4 hf4; rw [zero_cmd, kind_cmd, rowA_whole] at hb4; rw [zero_cmd] at hf4; rw [kind_cmd (k : Int)]; have H4 := Lib.hid (And.intro hb4 hf4); clear hb4 hf4))
  obtain ⟨q, hq⟩ : ∃ q, w3.heap.size = q := ⟨_, rfl⟩
  rw [hq] at H4 ⊢
  have HC : Hid (RC 32 (rowA cmdT 24 fun _ => 0) w w4 r g q (byteL l) (byteF l false) (rowA cmdT 24 fun i => if i = 0 then (k : Int) else 0)) := by
    have z1 := HA.out.2.2
    have z2 := HG.out
    have z3 := H3.out.2.size
    have z4 := H2.out.1.1.lt
    have rl : r < w2.heap.size := by omega
    have b2 : Below r w w2 := HA.out.2.1.trans (H2.out.2.mono (by omega))
    have b3 : Below r w w3 := b2.trans (H3.out.2.below (by omega) (fun j hj e => by omega))
    exact ⟨((((HA.out.1.below H2.out.2 (show r < g by omega)).fr H3.out.2 (by omega)).alloc _).fr H4.out.2 (by omega)), (H3.out.1.below ((Below.refl _ _).alloc (Nat.le_refl _) _)).fr H4.out.2 (by omega), H4.out.1, (b3.alloc (by omega) _).trans (H4.out.2.below (by rw [World.size_alloc]; omega) (fun j hj e => by omega)), by omega, by omega, by omega, by omega, by omega⟩
  clear hq H4 H3 H2 HA
  have ck : w4.cell? ⟨q, 0, none⟩ = some (.int .u8 (k : Int)) := HC.out.blk.get 0 (rowA_get (by decide))
  rw [HK.out.2] at HE
  go_wp2_with fail
  with_reducible refine (cmd_known k true (by have := HK.out.1; exact (decide_eq_true (by omega)).symm) w4).mono ?_
  rintro e wx ⟨rfl, rfl⟩
  have HCL := Lib.hid (And.intro HC.out.eye.1.lt HC.out.blk.lt)
  have PT := Lib.hid (cmd_parts k q w4 HK.out.1.1 HK.out.1.2 ck)
  clear ck
  go_wp2_with fail
  with_reducible refine PT.out.mono ?_
  rintro e w5 ⟨bp, cp, rfl, hbp, hpp, hb5⟩
  have HP := Lib.hid (And.intro hpp hbp)
  replace HC := Lib.hid (HC.out.next hb5)
  have HAP : Hid (bp ≠ g ∧ bp ≠ q) := ⟨by have := HCL.out.1; omega, by have := HCL.out.2; omega⟩
  clear hpp hbp hb5 PT
  have RD := Lib.hid (cmd_read g q 32 (rowA cmdT 24 fun i => if i = 0 then (k : Int) else 0) (slotsOf k) (byteL l) (byteF l false) bp cp w5 (slots_len k) HP.out.1 HAP.out.1 HAP.out.2 HC.out.gq HC.out.blk HC.out.eye (fun s hs => by rw [rowA_size]; exact (slots_ok k s hs).2.2.1))
  rw [HE.out.2, HE.out.1] at RD
  go_wp2_with fail
  with_reducible refine RD.out.mono ?_
  rintro e w6 ⟨rfl, hrd⟩
  replace HC := Lib.hid (HC.out.read hrd)
  clear hrd RD
  have HSZ : Hid (R.1.size = 24 ∧ R.1.all (·.oneCell') = true) := by
    have h := reads_rowA (ty := cmdT) (n := 24) (slotsOf k) (fun i => if i = 0 then (k : Int) else 0) (byteL l) (byteF l false) (fun s hs => ⟨(slots_ok k s hs).1, (slots_ok k s hs).2.1⟩)
    rw [HE.out.2] at h
    rw [h]
    exact ⟨rowA_size, rowA_one⟩
  go_wp2_with (first | (refine wpList_load_blk rfl 32 _ rfl q rfl 32 _ _ HC.out.blk Tryd.underlying32 rfl (by rw [HSZ.out.1]; kernel_rfl) ?_) | (refine wpList_store_part rfl 32 _ _ rfl r 0 _ rfl rfl 32 _ HC.out.res (by rw [HSZ.out.1, rowA_size]; decide) (by rw [HSZ.out.1]; kernel_rfl) HSZ.out.2 ?_; intro w9 hb9 hf9; rw [splice_all _ _ (by rw [Array.length_toList, HSZ.out.1, rowA_size]), Array.toArray_toList] at hb9; have H9 := Lib.hid (HC.out.put hb9 hf9); clear hb9 hf9))
  refine result_blk2 (k := 2) (j := 3) rfl rfl rfl H9.out.res Tryd.underlying32 rfl (by rw [HSZ.out.1]; kernel_rfl) rfl ?_
  exact ⟨rfl, H9.out.below⟩

end Go.Proofs.YtjhffbhjiflfeaaDoor
