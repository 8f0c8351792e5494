/-
  The document's ReadCommand (cases).
-/
import Derived.Test.YtbageagobalgbaaProg
import Derived.Test.YtbageagobalgbaaCmdZ0
namespace Go.Proofs.Ytbageagobalgbaa
set_option linter.unusedVariables false
set_option linter.unusedSimpArgs false
set_option maxRecDepth 100000
open Go.RowKit

set_option maxHeartbeats 16000000 in
theorem ref_read_no (l : List Nat) (w : World) (hl : Bytes l) (hl5 : l.length ≤ 500) (hkk : byteR l = 0 ∨ 7 < byteR l) :
    Calls Try.prog 8 #[.string (bs l)] w fun e w' => e = .returned (.tuple #[.agg (rowA cmdT 24 fun _ => 0), .int .i64 140]) ∧ Below w.heap.size w w' := by
  have HBY := Lib.hid (And.intro hl hl5)
  clear hl hl5
  obtain ⟨r, hr⟩ : ∃ r, w.heap.size = r := ⟨_, rfl⟩
  rw [hr]
  have HR_ := Lib.hid hr
  clear hr
  go_enter Try.func8, Try.ntmps8
  go_upto_region 2 with (fail)
  rw [zero_cmd]
  try rw [HR_.out]
  have a0 := (Blk.new w 32 (rowA cmdT 24 fun _ => 0)).alloc (.cells #[.string (bs l), .bool false] 66)
  have a1 : Blk ((w.alloc (.cells (rowA cmdT 24 fun _ => 0) 32)).alloc (.cells #[.string (bs l), .bool false] 66)) (w.heap.size + 1) 66 #[.string (bs l), .bool false] := Blk.new_at (by simp)
  have ab : Below w.heap.size w ((w.alloc (.cells (rowA cmdT 24 fun _ => 0) 32)).alloc (.cells #[.string (bs l), .bool false] 66)) := by go_grown
  have az : ((w.alloc (.cells (rowA cmdT 24 fun _ => 0) 32)).alloc (.cells #[.string (bs l), .bool false] 66)).heap.size = w.heap.size + 2 := by simp
  rw [HR_.out] at a0 a1 ab az
  generalize (w.alloc (.cells (rowA cmdT 24 fun _ => 0) 32)).alloc (.cells #[.string (bs l), .bool false] 66) = w1 at a0 a1 ab az ⊢
  have he : REyeAt w1 (r + 1) l false := ⟨a1, HBY.out.1, fun e => by cases e⟩
  have HA := Lib.hid (And.intro a0 (And.intro he (And.intro ab az)))
  clear a0 a1 ab az he
  go_wp2_with fail
  with_reducible refine (reyeByte (r + 1) l false w1 HA.out.2.1).mono ?_
  rintro e w3 ⟨rfl, he, hf⟩
  have H3 := Lib.hid (And.intro he hf)
  clear he hf
  obtain ⟨k, hk⟩ : ∃ k, byteR l = k := ⟨_, rfl⟩
  rw [hk] at hkk ⊢
  have HK := Lib.hid (And.intro hkk hk)
  clear hkk hk
  go_upto_region 3 with (first | (refine wpList_store_part rfl 32 _ _ rfl _ 0 _ rfl rfl 32 _ (Blk.new_at (by simp)) (by simp) (by kernel_rfl) (by simp [Value.oneCell']) ?_; intro w4 hb4 hf4; rw [zero_cmd, kind_cmd, rowA_whole] at hb4; rw [zero_cmd] at hf4; rw [kind_cmd (k : Int)]; have H4 := Lib.hid (And.intro hb4 hf4); clear hb4 hf4))
  obtain ⟨q, hq⟩ : ∃ q, w3.heap.size = q := ⟨_, rfl⟩
  obtain ⟨g, hg⟩ : ∃ g, r + 1 = g := ⟨_, rfl⟩
  rw [hq] at H4 ⊢
  rw [hg] at H3 HA ⊢
  have HC : Hid (RRC 32 (rowA cmdT 24 fun _ => 0) w w4 r g q (byteL l) (byteF l false) (rowA cmdT 24 fun i => if i = 0 then (k : Int) else 0)) := by
    have z1 := HA.out.2.2.2
    have z3 := H3.out.2.size
    have b3 : Below r w w3 := HA.out.2.2.1.trans (H3.out.2.below (by omega) (fun j hj e => by omega))
    exact ⟨((HA.out.1.fr H3.out.2 (by omega)).alloc _).fr H4.out.2 (by omega), (H3.out.1.below ((Below.refl _ _).alloc (Nat.le_refl _) _)).fr H4.out.2 (by omega), H4.out.1, (b3.alloc (by omega) _).trans (H4.out.2.below (by rw [World.size_alloc]; omega) (fun j hj e => by omega)), by omega, by omega, by omega, by omega, by omega⟩
  have HL : Hid ((byteL l).length ≤ 500) := Nat.le_trans (by cases l <;> simp [byteL]) HBY.out.2
  clear hq hg H4 H3 HA
  have c0 : w4.cell? ⟨q, 0, none⟩ = some (.int .u8 (k : Int)) := HC.out.blk.get 0 (rowA_get (by decide))
  have k1 : ((k : Int) == 1) = false := beq_eq_false_iff_ne.2 (by have := HK.out.1; omega)
  have k2 : ((k : Int) == 2) = false := beq_eq_false_iff_ne.2 (by have := HK.out.1; omega)
  have k3 : ((k : Int) == 3) = false := beq_eq_false_iff_ne.2 (by have := HK.out.1; omega)
  have k4 : ((k : Int) == 4) = false := beq_eq_false_iff_ne.2 (by have := HK.out.1; omega)
  have k5 : ((k : Int) == 5) = false := beq_eq_false_iff_ne.2 (by have := HK.out.1; omega)
  have k6 : ((k : Int) == 6) = false := beq_eq_false_iff_ne.2 (by have := HK.out.1; omega)
  have k7 : ((k : Int) == 7) = false := beq_eq_false_iff_ne.2 (by have := HK.out.1; omega)
  go_wp2_with (first | (refine wpList_store_part rfl 32 _ _ rfl r 0 _ rfl rfl 32 _ HC.out.res (by simp [rowA_size]) (by first | (rw [rowA_size]; kernel_rfl) | kernel_rfl) (by first | exact rowA_one | simp [Value.oneCell']) ?_; intro w9 hb9 hf9; rw [zero_cmd, rowA_whole] at hb9; have H9 := Lib.hid (HC.out.put hb9 hf9); clear hb9 hf9))
  refine result_blk2 (k := 2) (j := 3) rfl rfl rfl H9.out.res Try.underlying32 rfl (by rw [rowA_size]; kernel_rfl) rfl ?_
  exact ⟨rfl, H9.out.below⟩

set_option maxHeartbeats 16000000 in
theorem ref_read_1_ok (l : List Nat) (w : World) (R : Array Value × List Nat × Bool) (hl : Bytes l) (hl5 : l.length ≤ 500) (hkk : byteR l = 1) (hRR : reads (slotsOf 1) (rowA cmdT 24 fun i => if i = 0 then (((1 : Nat) : Int)) else 0) (byteL l) (byteF l false) = R) (hD : doneB R.2.1 R.2.2 = true) :
    Calls Try.prog 8 #[.string (bs l)] w fun e w' => e = .returned (.tuple #[.agg R.1, .int .i64 0]) ∧ Below w.heap.size w w' := by
  have HR := Lib.hid hRR
  have HD := Lib.hid hD
  clear hRR hD
  have HBY := Lib.hid (And.intro hl hl5)
  clear hl hl5
  obtain ⟨r, hr⟩ : ∃ r, w.heap.size = r := ⟨_, rfl⟩
  rw [hr]
  have HR_ := Lib.hid hr
  clear hr
  go_enter Try.func8, Try.ntmps8
  go_upto_region 2 with (fail)
  rw [zero_cmd]
  try rw [HR_.out]
  have a0 := (Blk.new w 32 (rowA cmdT 24 fun _ => 0)).alloc (.cells #[.string (bs l), .bool false] 66)
  have a1 : Blk ((w.alloc (.cells (rowA cmdT 24 fun _ => 0) 32)).alloc (.cells #[.string (bs l), .bool false] 66)) (w.heap.size + 1) 66 #[.string (bs l), .bool false] := Blk.new_at (by simp)
  have ab : Below w.heap.size w ((w.alloc (.cells (rowA cmdT 24 fun _ => 0) 32)).alloc (.cells #[.string (bs l), .bool false] 66)) := by go_grown
  have az : ((w.alloc (.cells (rowA cmdT 24 fun _ => 0) 32)).alloc (.cells #[.string (bs l), .bool false] 66)).heap.size = w.heap.size + 2 := by simp
  rw [HR_.out] at a0 a1 ab az
  generalize (w.alloc (.cells (rowA cmdT 24 fun _ => 0) 32)).alloc (.cells #[.string (bs l), .bool false] 66) = w1 at a0 a1 ab az ⊢
  have he : REyeAt w1 (r + 1) l false := ⟨a1, HBY.out.1, fun e => by cases e⟩
  have HA := Lib.hid (And.intro a0 (And.intro he (And.intro ab az)))
  clear a0 a1 ab az he
  go_wp2_with fail
  with_reducible refine (reyeByte (r + 1) l false w1 HA.out.2.1).mono ?_
  rintro e w3 ⟨rfl, he, hf⟩
  have H3 := Lib.hid (And.intro he hf)
  clear he hf
  obtain ⟨k, hk⟩ : ∃ k, byteR l = k := ⟨_, rfl⟩
  rw [hk] at hkk ⊢
  have HK := Lib.hid (And.intro hkk hk)
  clear hkk hk
  go_upto_region 3 with (first | (refine wpList_store_part rfl 32 _ _ rfl _ 0 _ rfl rfl 32 _ (Blk.new_at (by simp)) (by simp) (by kernel_rfl) (by simp [Value.oneCell']) ?_; intro w4 hb4 hf4; rw [zero_cmd, kind_cmd, rowA_whole] at hb4; rw [zero_cmd] at hf4; rw [kind_cmd (k : Int)]; have H4 := Lib.hid (And.intro hb4 hf4); clear hb4 hf4))
  obtain ⟨q, hq⟩ : ∃ q, w3.heap.size = q := ⟨_, rfl⟩
  obtain ⟨g, hg⟩ : ∃ g, r + 1 = g := ⟨_, rfl⟩
  rw [hq] at H4 ⊢
  rw [hg] at H3 HA ⊢
  have HC : Hid (RRC 32 (rowA cmdT 24 fun _ => 0) w w4 r g q (byteL l) (byteF l false) (rowA cmdT 24 fun i => if i = 0 then (k : Int) else 0)) := by
    have z1 := HA.out.2.2.2
    have z3 := H3.out.2.size
    have b3 : Below r w w3 := HA.out.2.2.1.trans (H3.out.2.below (by omega) (fun j hj e => by omega))
    exact ⟨((HA.out.1.fr H3.out.2 (by omega)).alloc _).fr H4.out.2 (by omega), (H3.out.1.below ((Below.refl _ _).alloc (Nat.le_refl _) _)).fr H4.out.2 (by omega), H4.out.1, (b3.alloc (by omega) _).trans (H4.out.2.below (by rw [World.size_alloc]; omega) (fun j hj e => by omega)), by omega, by omega, by omega, by omega, by omega⟩
  have HL : Hid ((byteL l).length ≤ 500) := Nat.le_trans (by cases l <;> simp [byteL]) HBY.out.2
  clear hq hg H4 H3 HA
  have c0 : w4.cell? ⟨q, 0, none⟩ = some (.int .u8 (k : Int)) := HC.out.blk.get 0 (rowA_get (by decide))
  obtain rfl : k = 1 := HK.out.1
  have HY : Hid (Bytes (byteL l)) := byteL_bytes HBY.out.1
  have H0 : Hid ((fun i => if i = 0 then (((1 : Nat) : Int)) else 0) 0 = ((1 : Nat) : Int)) := rfl
  generalize byteL l = la0 at HC HR HL HY
  generalize byteF l false = fa0 at HC HR
  generalize (fun i => if i = 0 then (((1 : Nat) : Int)) else 0) = ca0 at HC HR H0 ⊢
  clear HBY HK HR_
  go_wp2_with fail
  try clear c0
  with_reducible refine (reyeNum g la0 fa0 _ HC.out.eye (Nat.le_trans HL.out (by decide))).mono ?_
  rintro e wa1 ⟨rfl, he⟩
  have HCa := Lib.hid (HC.out.look he)
  obtain ⟨u1, cq⟩ : ∃ u, wa1.cell? ⟨q, 1, none⟩ = some u := ⟨_, HCa.out.blk.get 1 (rowA_get (by decide))⟩
  have fq : wa1.frozen? ⟨q, 1, none⟩ = false := Blk.frozen HCa.out.blk 1
  have HCb : Hid (RRC 32 (rowA cmdT 24 fun _ => 0) w (wa1.setCell ⟨q, 1, none⟩ (.int .u64 ((numR la0 : Nat) : Int))) r g q (rdL 0 la0) (rdF 0 la0 fa0) (rowA cmdT 24 (upd ca0 1 (rdV 0 la0)))) := by
    have h := HCa.out.cell 1 (.int .u64 ((numR la0 : Nat) : Int))
    have e : (rowA cmdT 24 ca0).setIfInBounds 1 (.int .u64 ((numR la0 : Nat) : Int)) = rowA cmdT 24 (upd ca0 1 (rdV 0 la0)) := set_row (s := (0, 1)) rfl (by decide) ca0 (rdV 0 la0)
    rw [e] at h
    exact h
  have HRb : Hid (reads [(1, 2), (0, 3)] (rowA cmdT 24 (upd ca0 1 (rdV 0 la0))) (rdL 0 la0) (rdF 0 la0 fa0) = R) := rstep (s := (0, 1)) rfl (by decide) HR.out
  have H0b : Hid (upd ca0 1 (rdV 0 la0) 0 = ((1 : Nat) : Int)) := H0.out
  have HLb : Hid ((rdL 0 la0).length ≤ 500) := Nat.le_trans (rdL_len HY.out) HL.out
  have HYb : Hid (Bytes (rdL 0 la0)) := rdL_bytes HY.out
  have c0 : (wa1.setCell ⟨q, 1, none⟩ (.int .u64 ((numR la0 : Nat) : Int))).cell? ⟨q, 0, none⟩ = some (.int .u8 ((1 : Nat) : Int)) := HCb.out.blk.get 0 (by rw [rowA_get (by decide), H0b.out]; rfl)
  clear HC HCa HR H0 HL HY he
  go_wp2_with fail
  try clear c0
  clear cq fq
  generalize wa1.setCell ⟨q, 1, none⟩ (.int .u64 ((numR la0 : Nat) : Int)) = wb1 at HCb ⊢
  generalize rdL 0 la0 = la1 at HCb HRb HLb HYb
  generalize rdF 0 la0 fa0 = fa1 at HCb HRb
  generalize upd ca0 1 (rdV 0 la0) = ca1 at HCb HRb H0b
  have HC := Lib.hid HCb.out
  have HR := Lib.hid HRb.out
  have H0 := Lib.hid H0b.out
  have HL := Lib.hid HLb.out
  have HY := Lib.hid HYb.out
  clear HCb HRb H0b HLb HYb
  with_reducible refine (reyeInt g la1 fa1 _ HC.out.eye (Nat.le_trans HL.out (by decide))).mono ?_
  rintro e wa2 ⟨rfl, he⟩
  have HCa := Lib.hid (HC.out.look he)
  obtain ⟨u2, cq⟩ : ∃ u, wa2.cell? ⟨q, 2, none⟩ = some u := ⟨_, HCa.out.blk.get 2 (rowA_get (by decide))⟩
  have fq : wa2.frozen? ⟨q, 2, none⟩ = false := Blk.frozen HCa.out.blk 2
  have HCb : Hid (RRC 32 (rowA cmdT 24 fun _ => 0) w (wa2.setCell ⟨q, 2, none⟩ (.int .i64 (unz (numR la1)))) r g q (rdL 1 la1) (rdF 1 la1 fa1) (rowA cmdT 24 (upd ca1 2 (rdV 1 la1)))) := by
    have h := HCa.out.cell 2 (.int .i64 (unz (numR la1)))
    have e : (rowA cmdT 24 ca1).setIfInBounds 2 (.int .i64 (unz (numR la1))) = rowA cmdT 24 (upd ca1 2 (rdV 1 la1)) := set_row (s := (1, 2)) rfl (by decide) ca1 (rdV 1 la1)
    rw [e] at h
    exact h
  have HRb : Hid (reads [(0, 3)] (rowA cmdT 24 (upd ca1 2 (rdV 1 la1))) (rdL 1 la1) (rdF 1 la1 fa1) = R) := rstep (s := (1, 2)) rfl (by decide) HR.out
  have H0b : Hid (upd ca1 2 (rdV 1 la1) 0 = ((1 : Nat) : Int)) := H0.out
  have HLb : Hid ((rdL 1 la1).length ≤ 500) := Nat.le_trans (rdL_len HY.out) HL.out
  have HYb : Hid (Bytes (rdL 1 la1)) := rdL_bytes HY.out
  have c0 : (wa2.setCell ⟨q, 2, none⟩ (.int .i64 (unz (numR la1)))).cell? ⟨q, 0, none⟩ = some (.int .u8 ((1 : Nat) : Int)) := HCb.out.blk.get 0 (by rw [rowA_get (by decide), H0b.out]; rfl)
  clear HC HCa HR H0 HL HY he
  go_wp2_with fail
  try clear c0
  clear cq fq
  generalize wa2.setCell ⟨q, 2, none⟩ (.int .i64 (unz (numR la1))) = wb2 at HCb ⊢
  generalize rdL 1 la1 = la2 at HCb HRb HLb HYb
  generalize rdF 1 la1 fa1 = fa2 at HCb HRb
  generalize upd ca1 2 (rdV 1 la1) = ca2 at HCb HRb H0b
  have HC := Lib.hid HCb.out
  have HR := Lib.hid HRb.out
  have H0 := Lib.hid H0b.out
  have HL := Lib.hid HLb.out
  have HY := Lib.hid HYb.out
  clear HCb HRb H0b HLb HYb
  with_reducible refine (reyeNum g la2 fa2 _ HC.out.eye (Nat.le_trans HL.out (by decide))).mono ?_
  rintro e wa3 ⟨rfl, he⟩
  have HCa := Lib.hid (HC.out.look he)
  obtain ⟨u3, cq⟩ : ∃ u, wa3.cell? ⟨q, 3, none⟩ = some u := ⟨_, HCa.out.blk.get 3 (rowA_get (by decide))⟩
  have fq : wa3.frozen? ⟨q, 3, none⟩ = false := Blk.frozen HCa.out.blk 3
  have HCb : Hid (RRC 32 (rowA cmdT 24 fun _ => 0) w (wa3.setCell ⟨q, 3, none⟩ (.int .u64 ((numR la2 : Nat) : Int))) r g q (rdL 0 la2) (rdF 0 la2 fa2) (rowA cmdT 24 (upd ca2 3 (rdV 0 la2)))) := by
    have h := HCa.out.cell 3 (.int .u64 ((numR la2 : Nat) : Int))
    have e : (rowA cmdT 24 ca2).setIfInBounds 3 (.int .u64 ((numR la2 : Nat) : Int)) = rowA cmdT 24 (upd ca2 3 (rdV 0 la2)) := set_row (s := (0, 3)) rfl (by decide) ca2 (rdV 0 la2)
    rw [e] at h
    exact h
  have HRb : Hid (reads [] (rowA cmdT 24 (upd ca2 3 (rdV 0 la2))) (rdL 0 la2) (rdF 0 la2 fa2) = R) := rstep (s := (0, 3)) rfl (by decide) HR.out
  have H0b : Hid (upd ca2 3 (rdV 0 la2) 0 = ((1 : Nat) : Int)) := H0.out
  have HLb : Hid ((rdL 0 la2).length ≤ 500) := Nat.le_trans (rdL_len HY.out) HL.out
  have HYb : Hid (Bytes (rdL 0 la2)) := rdL_bytes HY.out
  have c0 : (wa3.setCell ⟨q, 3, none⟩ (.int .u64 ((numR la2 : Nat) : Int))).cell? ⟨q, 0, none⟩ = some (.int .u8 ((1 : Nat) : Int)) := HCb.out.blk.get 0 (by rw [rowA_get (by decide), H0b.out]; rfl)
  clear HC HCa HR H0 HL HY he
  go_wp2_with fail
  try clear c0
  clear cq fq
  generalize wa3.setCell ⟨q, 3, none⟩ (.int .u64 ((numR la2 : Nat) : Int)) = wb3 at HCb ⊢
  generalize rdL 0 la2 = la3 at HCb HRb HLb HYb
  generalize rdF 0 la2 fa2 = fa3 at HCb HRb
  generalize upd ca2 3 (rdV 0 la2) = ca3 at HCb HRb H0b
  have HC := Lib.hid HCb.out
  have HR := Lib.hid HRb.out
  have H0 := Lib.hid H0b.out
  have HL := Lib.hid HLb.out
  have HY := Lib.hid HYb.out
  clear HCb HRb H0b HLb HYb
  obtain rfl : (rowA cmdT 24 ca3, la3, fa3) = R := HR.out
  with_reducible refine (reyeDone g la3 fa3 _ HC.out.eye).mono ?_
  rintro e wx ⟨rfl, rfl⟩
  have hd : doneB la3 fa3 = true := HD.out
  rw [hd]
  clear hd
  go_wp2_with (first | (refine wpList_load_blk rfl 32 _ rfl q rfl 32 _ _ HC.out.blk Try.underlying32 rfl (by rw [rowA_size]; kernel_rfl) ?_) | (refine wpList_store_part rfl 32 _ _ rfl r 0 _ rfl rfl 32 _ HC.out.res (by rw [rowA_size, rowA_size]; decide) (by rw [rowA_size]; kernel_rfl) rowA_one ?_; intro w9 hb9 hf9; rw [rowA_whole] at hb9; have H9 := Lib.hid (HC.out.put hb9 hf9); clear hb9 hf9))
  refine result_blk2 (k := 2) (j := 3) rfl rfl rfl H9.out.res Try.underlying32 rfl (by rw [rowA_size]; kernel_rfl) rfl ?_
  exact ⟨rfl, H9.out.below⟩

set_option maxHeartbeats 16000000 in
theorem ref_read_1_end (l : List Nat) (w : World) (R : Array Value × List Nat × Bool) (hl : Bytes l) (hl5 : l.length ≤ 500) (hkk : byteR l = 1) (hRR : reads (slotsOf 1) (rowA cmdT 24 fun i => if i = 0 then (((1 : Nat) : Int)) else 0) (byteL l) (byteF l false) = R) (hD : doneB R.2.1 R.2.2 = false) :
    Calls Try.prog 8 #[.string (bs l)] w fun e w' => e = .returned (.tuple #[.agg (rowA cmdT 24 fun _ => 0), .int .i64 140]) ∧ Below w.heap.size w w' := by
  have HR := Lib.hid hRR
  have HD := Lib.hid hD
  clear hRR hD
  have HBY := Lib.hid (And.intro hl hl5)
  clear hl hl5
  obtain ⟨r, hr⟩ : ∃ r, w.heap.size = r := ⟨_, rfl⟩
  rw [hr]
  have HR_ := Lib.hid hr
  clear hr
  go_enter Try.func8, Try.ntmps8
  go_upto_region 2 with (fail)
  rw [zero_cmd]
  try rw [HR_.out]
  have a0 := (Blk.new w 32 (rowA cmdT 24 fun _ => 0)).alloc (.cells #[.string (bs l), .bool false] 66)
  have a1 : Blk ((w.alloc (.cells (rowA cmdT 24 fun _ => 0) 32)).alloc (.cells #[.string (bs l), .bool false] 66)) (w.heap.size + 1) 66 #[.string (bs l), .bool false] := Blk.new_at (by simp)
  have ab : Below w.heap.size w ((w.alloc (.cells (rowA cmdT 24 fun _ => 0) 32)).alloc (.cells #[.string (bs l), .bool false] 66)) := by go_grown
  have az : ((w.alloc (.cells (rowA cmdT 24 fun _ => 0) 32)).alloc (.cells #[.string (bs l), .bool false] 66)).heap.size = w.heap.size + 2 := by simp
  rw [HR_.out] at a0 a1 ab az
  generalize (w.alloc (.cells (rowA cmdT 24 fun _ => 0) 32)).alloc (.cells #[.string (bs l), .bool false] 66) = w1 at a0 a1 ab az ⊢
  have he : REyeAt w1 (r + 1) l false := ⟨a1, HBY.out.1, fun e => by cases e⟩
  have HA := Lib.hid (And.intro a0 (And.intro he (And.intro ab az)))
  clear a0 a1 ab az he
  go_wp2_with fail
  with_reducible refine (reyeByte (r + 1) l false w1 HA.out.2.1).mono ?_
  rintro e w3 ⟨rfl, he, hf⟩
  have H3 := Lib.hid (And.intro he hf)
  clear he hf
  obtain ⟨k, hk⟩ : ∃ k, byteR l = k := ⟨_, rfl⟩
  rw [hk] at hkk ⊢
  have HK := Lib.hid (And.intro hkk hk)
  clear hkk hk
  go_upto_region 3 with (first | (refine wpList_store_part rfl 32 _ _ rfl _ 0 _ rfl rfl 32 _ (Blk.new_at (by simp)) (by simp) (by kernel_rfl) (by simp [Value.oneCell']) ?_; intro w4 hb4 hf4; rw [zero_cmd, kind_cmd, rowA_whole] at hb4; rw [zero_cmd] at hf4; rw [kind_cmd (k : Int)]; have H4 := Lib.hid (And.intro hb4 hf4); clear hb4 hf4))
  obtain ⟨q, hq⟩ : ∃ q, w3.heap.size = q := ⟨_, rfl⟩
  obtain ⟨g, hg⟩ : ∃ g, r + 1 = g := ⟨_, rfl⟩
  rw [hq] at H4 ⊢
  rw [hg] at H3 HA ⊢
  have HC : Hid (RRC 32 (rowA cmdT 24 fun _ => 0) w w4 r g q (byteL l) (byteF l false) (rowA cmdT 24 fun i => if i = 0 then (k : Int) else 0)) := by
    have z1 := HA.out.2.2.2
    have z3 := H3.out.2.size
    have b3 : Below r w w3 := HA.out.2.2.1.trans (H3.out.2.below (by omega) (fun j hj e => by omega))
    exact ⟨((HA.out.1.fr H3.out.2 (by omega)).alloc _).fr H4.out.2 (by omega), (H3.out.1.below ((Below.refl _ _).alloc (Nat.le_refl _) _)).fr H4.out.2 (by omega), H4.out.1, (b3.alloc (by omega) _).trans (H4.out.2.below (by rw [World.size_alloc]; omega) (fun j hj e => by omega)), by omega, by omega, by omega, by omega, by omega⟩
  have HL : Hid ((byteL l).length ≤ 500) := Nat.le_trans (by cases l <;> simp [byteL]) HBY.out.2
  clear hq hg H4 H3 HA
  have c0 : w4.cell? ⟨q, 0, none⟩ = some (.int .u8 (k : Int)) := HC.out.blk.get 0 (rowA_get (by decide))
  obtain rfl : k = 1 := HK.out.1
  have HY : Hid (Bytes (byteL l)) := byteL_bytes HBY.out.1
  have H0 : Hid ((fun i => if i = 0 then (((1 : Nat) : Int)) else 0) 0 = ((1 : Nat) : Int)) := rfl
  generalize byteL l = la0 at HC HR HL HY
  generalize byteF l false = fa0 at HC HR
  generalize (fun i => if i = 0 then (((1 : Nat) : Int)) else 0) = ca0 at HC HR H0 ⊢
  clear HBY HK HR_
  go_wp2_with fail
  try clear c0
  with_reducible refine (reyeNum g la0 fa0 _ HC.out.eye (Nat.le_trans HL.out (by decide))).mono ?_
  rintro e wa1 ⟨rfl, he⟩
  have HCa := Lib.hid (HC.out.look he)
  obtain ⟨u1, cq⟩ : ∃ u, wa1.cell? ⟨q, 1, none⟩ = some u := ⟨_, HCa.out.blk.get 1 (rowA_get (by decide))⟩
  have fq : wa1.frozen? ⟨q, 1, none⟩ = false := Blk.frozen HCa.out.blk 1
  have HCb : Hid (RRC 32 (rowA cmdT 24 fun _ => 0) w (wa1.setCell ⟨q, 1, none⟩ (.int .u64 ((numR la0 : Nat) : Int))) r g q (rdL 0 la0) (rdF 0 la0 fa0) (rowA cmdT 24 (upd ca0 1 (rdV 0 la0)))) := by
    have h := HCa.out.cell 1 (.int .u64 ((numR la0 : Nat) : Int))
    have e : (rowA cmdT 24 ca0).setIfInBounds 1 (.int .u64 ((numR la0 : Nat) : Int)) = rowA cmdT 24 (upd ca0 1 (rdV 0 la0)) := set_row (s := (0, 1)) rfl (by decide) ca0 (rdV 0 la0)
    rw [e] at h
    exact h
  have HRb : Hid (reads [(1, 2), (0, 3)] (rowA cmdT 24 (upd ca0 1 (rdV 0 la0))) (rdL 0 la0) (rdF 0 la0 fa0) = R) := rstep (s := (0, 1)) rfl (by decide) HR.out
  have H0b : Hid (upd ca0 1 (rdV 0 la0) 0 = ((1 : Nat) : Int)) := H0.out
  have HLb : Hid ((rdL 0 la0).length ≤ 500) := Nat.le_trans (rdL_len HY.out) HL.out
  have HYb : Hid (Bytes (rdL 0 la0)) := rdL_bytes HY.out
  have c0 : (wa1.setCell ⟨q, 1, none⟩ (.int .u64 ((numR la0 : Nat) : Int))).cell? ⟨q, 0, none⟩ = some (.int .u8 ((1 : Nat) : Int)) := HCb.out.blk.get 0 (by rw [rowA_get (by decide), H0b.out]; rfl)
  clear HC HCa HR H0 HL HY he
  go_wp2_with fail
  try clear c0
  clear cq fq
  generalize wa1.setCell ⟨q, 1, none⟩ (.int .u64 ((numR la0 : Nat) : Int)) = wb1 at HCb ⊢
  generalize rdL 0 la0 = la1 at HCb HRb HLb HYb
  generalize rdF 0 la0 fa0 = fa1 at HCb HRb
  generalize upd ca0 1 (rdV 0 la0) = ca1 at HCb HRb H0b
  have HC := Lib.hid HCb.out
  have HR := Lib.hid HRb.out
  have H0 := Lib.hid H0b.out
  have HL := Lib.hid HLb.out
  have HY := Lib.hid HYb.out
  clear HCb HRb H0b HLb HYb
  with_reducible refine (reyeInt g la1 fa1 _ HC.out.eye (Nat.le_trans HL.out (by decide))).mono ?_
  rintro e wa2 ⟨rfl, he⟩
  have HCa := Lib.hid (HC.out.look he)
  obtain ⟨u2, cq⟩ : ∃ u, wa2.cell? ⟨q, 2, none⟩ = some u := ⟨_, HCa.out.blk.get 2 (rowA_get (by decide))⟩
  have fq : wa2.frozen? ⟨q, 2, none⟩ = false := Blk.frozen HCa.out.blk 2
  have HCb : Hid (RRC 32 (rowA cmdT 24 fun _ => 0) w (wa2.setCell ⟨q, 2, none⟩ (.int .i64 (unz (numR la1)))) r g q (rdL 1 la1) (rdF 1 la1 fa1) (rowA cmdT 24 (upd ca1 2 (rdV 1 la1)))) := by
    have h := HCa.out.cell 2 (.int .i64 (unz (numR la1)))
    have e : (rowA cmdT 24 ca1).setIfInBounds 2 (.int .i64 (unz (numR la1))) = rowA cmdT 24 (upd ca1 2 (rdV 1 la1)) := set_row (s := (1, 2)) rfl (by decide) ca1 (rdV 1 la1)
    rw [e] at h
    exact h
  have HRb : Hid (reads [(0, 3)] (rowA cmdT 24 (upd ca1 2 (rdV 1 la1))) (rdL 1 la1) (rdF 1 la1 fa1) = R) := rstep (s := (1, 2)) rfl (by decide) HR.out
  have H0b : Hid (upd ca1 2 (rdV 1 la1) 0 = ((1 : Nat) : Int)) := H0.out
  have HLb : Hid ((rdL 1 la1).length ≤ 500) := Nat.le_trans (rdL_len HY.out) HL.out
  have HYb : Hid (Bytes (rdL 1 la1)) := rdL_bytes HY.out
  have c0 : (wa2.setCell ⟨q, 2, none⟩ (.int .i64 (unz (numR la1)))).cell? ⟨q, 0, none⟩ = some (.int .u8 ((1 : Nat) : Int)) := HCb.out.blk.get 0 (by rw [rowA_get (by decide), H0b.out]; rfl)
  clear HC HCa HR H0 HL HY he
  go_wp2_with fail
  try clear c0
  clear cq fq
  generalize wa2.setCell ⟨q, 2, none⟩ (.int .i64 (unz (numR la1))) = wb2 at HCb ⊢
  generalize rdL 1 la1 = la2 at HCb HRb HLb HYb
  generalize rdF 1 la1 fa1 = fa2 at HCb HRb
  generalize upd ca1 2 (rdV 1 la1) = ca2 at HCb HRb H0b
  have HC := Lib.hid HCb.out
  have HR := Lib.hid HRb.out
  have H0 := Lib.hid H0b.out
  have HL := Lib.hid HLb.out
  have HY := Lib.hid HYb.out
  clear HCb HRb H0b HLb HYb
  with_reducible refine (reyeNum g la2 fa2 _ HC.out.eye (Nat.le_trans HL.out (by decide))).mono ?_
  rintro e wa3 ⟨rfl, he⟩
  have HCa := Lib.hid (HC.out.look he)
  obtain ⟨u3, cq⟩ : ∃ u, wa3.cell? ⟨q, 3, none⟩ = some u := ⟨_, HCa.out.blk.get 3 (rowA_get (by decide))⟩
  have fq : wa3.frozen? ⟨q, 3, none⟩ = false := Blk.frozen HCa.out.blk 3
  have HCb : Hid (RRC 32 (rowA cmdT 24 fun _ => 0) w (wa3.setCell ⟨q, 3, none⟩ (.int .u64 ((numR la2 : Nat) : Int))) r g q (rdL 0 la2) (rdF 0 la2 fa2) (rowA cmdT 24 (upd ca2 3 (rdV 0 la2)))) := by
    have h := HCa.out.cell 3 (.int .u64 ((numR la2 : Nat) : Int))
    have e : (rowA cmdT 24 ca2).setIfInBounds 3 (.int .u64 ((numR la2 : Nat) : Int)) = rowA cmdT 24 (upd ca2 3 (rdV 0 la2)) := set_row (s := (0, 3)) rfl (by decide) ca2 (rdV 0 la2)
    rw [e] at h
    exact h
  have HRb : Hid (reads [] (rowA cmdT 24 (upd ca2 3 (rdV 0 la2))) (rdL 0 la2) (rdF 0 la2 fa2) = R) := rstep (s := (0, 3)) rfl (by decide) HR.out
  have H0b : Hid (upd ca2 3 (rdV 0 la2) 0 = ((1 : Nat) : Int)) := H0.out
  have HLb : Hid ((rdL 0 la2).length ≤ 500) := Nat.le_trans (rdL_len HY.out) HL.out
  have HYb : Hid (Bytes (rdL 0 la2)) := rdL_bytes HY.out
  have c0 : (wa3.setCell ⟨q, 3, none⟩ (.int .u64 ((numR la2 : Nat) : Int))).cell? ⟨q, 0, none⟩ = some (.int .u8 ((1 : Nat) : Int)) := HCb.out.blk.get 0 (by rw [rowA_get (by decide), H0b.out]; rfl)
  clear HC HCa HR H0 HL HY he
  go_wp2_with fail
  try clear c0
  clear cq fq
  generalize wa3.setCell ⟨q, 3, none⟩ (.int .u64 ((numR la2 : Nat) : Int)) = wb3 at HCb ⊢
  generalize rdL 0 la2 = la3 at HCb HRb HLb HYb
  generalize rdF 0 la2 fa2 = fa3 at HCb HRb
  generalize upd ca2 3 (rdV 0 la2) = ca3 at HCb HRb H0b
  have HC := Lib.hid HCb.out
  have HR := Lib.hid HRb.out
  have H0 := Lib.hid H0b.out
  have HL := Lib.hid HLb.out
  have HY := Lib.hid HYb.out
  clear HCb HRb H0b HLb HYb
  obtain rfl : (rowA cmdT 24 ca3, la3, fa3) = R := HR.out
  with_reducible refine (reyeDone g la3 fa3 _ HC.out.eye).mono ?_
  rintro e wx ⟨rfl, rfl⟩
  have hd : doneB la3 fa3 = false := HD.out
  rw [hd]
  clear hd
  go_wp2_with (first | (refine wpList_store_part rfl 32 _ _ rfl r 0 _ rfl rfl 32 _ HC.out.res (by simp [rowA_size]) (by first | (rw [rowA_size]; kernel_rfl) | kernel_rfl) (by first | exact rowA_one | simp [Value.oneCell']) ?_; intro w9 hb9 hf9; rw [zero_cmd, rowA_whole] at hb9; have H9 := Lib.hid (HC.out.put hb9 hf9); clear hb9 hf9))
  refine result_blk2 (k := 2) (j := 3) rfl rfl rfl H9.out.res Try.underlying32 rfl (by rw [rowA_size]; kernel_rfl) rfl ?_
  exact ⟨rfl, H9.out.below⟩

set_option maxHeartbeats 16000000 in
theorem ref_read_4_ok (l : List Nat) (w : World) (R : Array Value × List Nat × Bool) (hl : Bytes l) (hl5 : l.length ≤ 500) (hkk : byteR l = 4) (hRR : reads (slotsOf 4) (rowA cmdT 24 fun i => if i = 0 then (((4 : Nat) : Int)) else 0) (byteL l) (byteF l false) = R) (hD : doneB R.2.1 R.2.2 = true) :
    Calls Try.prog 8 #[.string (bs l)] w fun e w' => e = .returned (.tuple #[.agg R.1, .int .i64 0]) ∧ Below w.heap.size w w' := by
  have HR := Lib.hid hRR
  have HD := Lib.hid hD
  clear hRR hD
  have HBY := Lib.hid (And.intro hl hl5)
  clear hl hl5
  obtain ⟨r, hr⟩ : ∃ r, w.heap.size = r := ⟨_, rfl⟩
  rw [hr]
  have HR_ := Lib.hid hr
  clear hr
  go_enter Try.func8, Try.ntmps8
  go_upto_region 2 with (fail)
  rw [zero_cmd]
  try rw [HR_.out]
  have a0 := (Blk.new w 32 (rowA cmdT 24 fun _ => 0)).alloc (.cells #[.string (bs l), .bool false] 66)
  have a1 : Blk ((w.alloc (.cells (rowA cmdT 24 fun _ => 0) 32)).alloc (.cells #[.string (bs l), .bool false] 66)) (w.heap.size + 1) 66 #[.string (bs l), .bool false] := Blk.new_at (by simp)
  have ab : Below w.heap.size w ((w.alloc (.cells (rowA cmdT 24 fun _ => 0) 32)).alloc (.cells #[.string (bs l), .bool false] 66)) := by go_grown
  have az : ((w.alloc (.cells (rowA cmdT 24 fun _ => 0) 32)).alloc (.cells #[.string (bs l), .bool false] 66)).heap.size = w.heap.size + 2 := by simp
  rw [HR_.out] at a0 a1 ab az
  generalize (w.alloc (.cells (rowA cmdT 24 fun _ => 0) 32)).alloc (.cells #[.string (bs l), .bool false] 66) = w1 at a0 a1 ab az ⊢
  have he : REyeAt w1 (r + 1) l false := ⟨a1, HBY.out.1, fun e => by cases e⟩
  have HA := Lib.hid (And.intro a0 (And.intro he (And.intro ab az)))
  clear a0 a1 ab az he
  go_wp2_with fail
  with_reducible refine (reyeByte (r + 1) l false w1 HA.out.2.1).mono ?_
  rintro e w3 ⟨rfl, he, hf⟩
  have H3 := Lib.hid (And.intro he hf)
  clear he hf
  obtain ⟨k, hk⟩ : ∃ k, byteR l = k := ⟨_, rfl⟩
  rw [hk] at hkk ⊢
  have HK := Lib.hid (And.intro hkk hk)
  clear hkk hk
  go_upto_region 3 with (first | (refine wpList_store_part rfl 32 _ _ rfl _ 0 _ rfl rfl 32 _ (Blk.new_at (by simp)) (by simp) (by kernel_rfl) (by simp [Value.oneCell']) ?_; intro w4 hb4 hf4; rw [zero_cmd, kind_cmd, rowA_whole] at hb4; rw [zero_cmd] at hf4; rw [kind_cmd (k : Int)]; have H4 := Lib.hid (And.intro hb4 hf4); clear hb4 hf4))
  obtain ⟨q, hq⟩ : ∃ q, w3.heap.size = q := ⟨_, rfl⟩
  obtain ⟨g, hg⟩ : ∃ g, r + 1 = g := ⟨_, rfl⟩
  rw [hq] at H4 ⊢
  rw [hg] at H3 HA ⊢
  have HC : Hid (RRC 32 (rowA cmdT 24 fun _ => 0) w w4 r g q (byteL l) (byteF l false) (rowA cmdT 24 fun i => if i = 0 then (k : Int) else 0)) := by
    have z1 := HA.out.2.2.2
    have z3 := H3.out.2.size
    have b3 : Below r w w3 := HA.out.2.2.1.trans (H3.out.2.below (by omega) (fun j hj e => by omega))
    exact ⟨((HA.out.1.fr H3.out.2 (by omega)).alloc _).fr H4.out.2 (by omega), (H3.out.1.below ((Below.refl _ _).alloc (Nat.le_refl _) _)).fr H4.out.2 (by omega), H4.out.1, (b3.alloc (by omega) _).trans (H4.out.2.below (by rw [World.size_alloc]; omega) (fun j hj e => by omega)), by omega, by omega, by omega, by omega, by omega⟩
  have HL : Hid ((byteL l).length ≤ 500) := Nat.le_trans (by cases l <;> simp [byteL]) HBY.out.2
  clear hq hg H4 H3 HA
  have c0 : w4.cell? ⟨q, 0, none⟩ = some (.int .u8 (k : Int)) := HC.out.blk.get 0 (rowA_get (by decide))
  obtain rfl : k = 4 := HK.out.1
  have HY : Hid (Bytes (byteL l)) := byteL_bytes HBY.out.1
  have H0 : Hid ((fun i => if i = 0 then (((4 : Nat) : Int)) else 0) 0 = ((4 : Nat) : Int)) := rfl
  generalize byteL l = la0 at HC HR HL HY
  generalize byteF l false = fa0 at HC HR
  generalize (fun i => if i = 0 then (((4 : Nat) : Int)) else 0) = ca0 at HC HR H0 ⊢
  clear HBY HK HR_
  go_wp2_with fail
  try clear c0
  with_reducible refine (reyeInt g la0 fa0 _ HC.out.eye (Nat.le_trans HL.out (by decide))).mono ?_
  rintro e wa1 ⟨rfl, he⟩
  have HCa := Lib.hid (HC.out.look he)
  obtain ⟨u1, cq⟩ : ∃ u, wa1.cell? ⟨q, 18, none⟩ = some u := ⟨_, HCa.out.blk.get 18 (rowA_get (by decide))⟩
  have fq : wa1.frozen? ⟨q, 18, none⟩ = false := Blk.frozen HCa.out.blk 18
  have HCb : Hid (RRC 32 (rowA cmdT 24 fun _ => 0) w (wa1.setCell ⟨q, 18, none⟩ (.int .i64 (unz (numR la0)))) r g q (rdL 1 la0) (rdF 1 la0 fa0) (rowA cmdT 24 (upd ca0 18 (rdV 1 la0)))) := by
    have h := HCa.out.cell 18 (.int .i64 (unz (numR la0)))
    have e : (rowA cmdT 24 ca0).setIfInBounds 18 (.int .i64 (unz (numR la0))) = rowA cmdT 24 (upd ca0 18 (rdV 1 la0)) := set_row (s := (1, 18)) rfl (by decide) ca0 (rdV 1 la0)
    rw [e] at h
    exact h
  have HRb : Hid (reads [] (rowA cmdT 24 (upd ca0 18 (rdV 1 la0))) (rdL 1 la0) (rdF 1 la0 fa0) = R) := rstep (s := (1, 18)) rfl (by decide) HR.out
  have H0b : Hid (upd ca0 18 (rdV 1 la0) 0 = ((4 : Nat) : Int)) := H0.out
  have HLb : Hid ((rdL 1 la0).length ≤ 500) := Nat.le_trans (rdL_len HY.out) HL.out
  have HYb : Hid (Bytes (rdL 1 la0)) := rdL_bytes HY.out
  have c0 : (wa1.setCell ⟨q, 18, none⟩ (.int .i64 (unz (numR la0)))).cell? ⟨q, 0, none⟩ = some (.int .u8 ((4 : Nat) : Int)) := HCb.out.blk.get 0 (by rw [rowA_get (by decide), H0b.out]; rfl)
  clear HC HCa HR H0 HL HY he
  go_wp2_with fail
  try clear c0
  clear cq fq
  generalize wa1.setCell ⟨q, 18, none⟩ (.int .i64 (unz (numR la0))) = wb1 at HCb ⊢
  generalize rdL 1 la0 = la1 at HCb HRb HLb HYb
  generalize rdF 1 la0 fa0 = fa1 at HCb HRb
  generalize upd ca0 18 (rdV 1 la0) = ca1 at HCb HRb H0b
  have HC := Lib.hid HCb.out
  have HR := Lib.hid HRb.out
  have H0 := Lib.hid H0b.out
  have HL := Lib.hid HLb.out
  have HY := Lib.hid HYb.out
  clear HCb HRb H0b HLb HYb
  obtain rfl : (rowA cmdT 24 ca1, la1, fa1) = R := HR.out
  with_reducible refine (reyeDone g la1 fa1 _ HC.out.eye).mono ?_
  rintro e wx ⟨rfl, rfl⟩
  have hd : doneB la1 fa1 = true := HD.out
  rw [hd]
  clear hd
  go_wp2_with (first | (refine wpList_load_blk rfl 32 _ rfl q rfl 32 _ _ HC.out.blk Try.underlying32 rfl (by rw [rowA_size]; kernel_rfl) ?_) | (refine wpList_store_part rfl 32 _ _ rfl r 0 _ rfl rfl 32 _ HC.out.res (by rw [rowA_size, rowA_size]; decide) (by rw [rowA_size]; kernel_rfl) rowA_one ?_; intro w9 hb9 hf9; rw [rowA_whole] at hb9; have H9 := Lib.hid (HC.out.put hb9 hf9); clear hb9 hf9))
  refine result_blk2 (k := 2) (j := 3) rfl rfl rfl H9.out.res Try.underlying32 rfl (by rw [rowA_size]; kernel_rfl) rfl ?_
  exact ⟨rfl, H9.out.below⟩

set_option maxHeartbeats 16000000 in
theorem ref_read_4_end (l : List Nat) (w : World) (R : Array Value × List Nat × Bool) (hl : Bytes l) (hl5 : l.length ≤ 500) (hkk : byteR l = 4) (hRR : reads (slotsOf 4) (rowA cmdT 24 fun i => if i = 0 then (((4 : Nat) : Int)) else 0) (byteL l) (byteF l false) = R) (hD : doneB R.2.1 R.2.2 = false) :
    Calls Try.prog 8 #[.string (bs l)] w fun e w' => e = .returned (.tuple #[.agg (rowA cmdT 24 fun _ => 0), .int .i64 140]) ∧ Below w.heap.size w w' := by
  have HR := Lib.hid hRR
  have HD := Lib.hid hD
  clear hRR hD
  have HBY := Lib.hid (And.intro hl hl5)
  clear hl hl5
  obtain ⟨r, hr⟩ : ∃ r, w.heap.size = r := ⟨_, rfl⟩
  rw [hr]
  have HR_ := Lib.hid hr
  clear hr
  go_enter Try.func8, Try.ntmps8
  go_upto_region 2 with (fail)
  rw [zero_cmd]
  try rw [HR_.out]
  have a0 := (Blk.new w 32 (rowA cmdT 24 fun _ => 0)).alloc (.cells #[.string (bs l), .bool false] 66)
  have a1 : Blk ((w.alloc (.cells (rowA cmdT 24 fun _ => 0) 32)).alloc (.cells #[.string (bs l), .bool false] 66)) (w.heap.size + 1) 66 #[.string (bs l), .bool false] := Blk.new_at (by simp)
  have ab : Below w.heap.size w ((w.alloc (.cells (rowA cmdT 24 fun _ => 0) 32)).alloc (.cells #[.string (bs l), .bool false] 66)) := by go_grown
  have az : ((w.alloc (.cells (rowA cmdT 24 fun _ => 0) 32)).alloc (.cells #[.string (bs l), .bool false] 66)).heap.size = w.heap.size + 2 := by simp
  rw [HR_.out] at a0 a1 ab az
  generalize (w.alloc (.cells (rowA cmdT 24 fun _ => 0) 32)).alloc (.cells #[.string (bs l), .bool false] 66) = w1 at a0 a1 ab az ⊢
  have he : REyeAt w1 (r + 1) l false := ⟨a1, HBY.out.1, fun e => by cases e⟩
  have HA := Lib.hid (And.intro a0 (And.intro he (And.intro ab az)))
  clear a0 a1 ab az he
  go_wp2_with fail
  with_reducible refine (reyeByte (r + 1) l false w1 HA.out.2.1).mono ?_
  rintro e w3 ⟨rfl, he, hf⟩
  have H3 := Lib.hid (And.intro he hf)
  clear he hf
  obtain ⟨k, hk⟩ : ∃ k, byteR l = k := ⟨_, rfl⟩
  rw [hk] at hkk ⊢
  have HK := Lib.hid (And.intro hkk hk)
  clear hkk hk
  go_upto_region 3 with (first | (refine wpList_store_part rfl 32 _ _ rfl _ 0 _ rfl rfl 32 _ (Blk.new_at (by simp)) (by simp) (by kernel_rfl) (by simp [Value.oneCell']) ?_; intro w4 hb4 hf4; rw [zero_cmd, kind_cmd, rowA_whole] at hb4; rw [zero_cmd] at hf4; rw [kind_cmd (k : Int)]; have H4 := Lib.hid (And.intro hb4 hf4); clear hb4 hf4))
  obtain ⟨q, hq⟩ : ∃ q, w3.heap.size = q := ⟨_, rfl⟩
  obtain ⟨g, hg⟩ : ∃ g, r + 1 = g := ⟨_, rfl⟩
  rw [hq] at H4 ⊢
  rw [hg] at H3 HA ⊢
  have HC : Hid (RRC 32 (rowA cmdT 24 fun _ => 0) w w4 r g q (byteL l) (byteF l false) (rowA cmdT 24 fun i => if i = 0 then (k : Int) else 0)) := by
    have z1 := HA.out.2.2.2
    have z3 := H3.out.2.size
    have b3 : Below r w w3 := HA.out.2.2.1.trans (H3.out.2.below (by omega) (fun j hj e => by omega))
    exact ⟨((HA.out.1.fr H3.out.2 (by omega)).alloc _).fr H4.out.2 (by omega), (H3.out.1.below ((Below.refl _ _).alloc (Nat.le_refl _) _)).fr H4.out.2 (by omega), H4.out.1, (b3.alloc (by omega) _).trans (H4.out.2.below (by rw [World.size_alloc]; omega) (fun j hj e => by omega)), by omega, by omega, by omega, by omega, by omega⟩
  have HL : Hid ((byteL l).length ≤ 500) := Nat.le_trans (by cases l <;> simp [byteL]) HBY.out.2
  clear hq hg H4 H3 HA
  have c0 : w4.cell? ⟨q, 0, none⟩ = some (.int .u8 (k : Int)) := HC.out.blk.get 0 (rowA_get (by decide))
  obtain rfl : k = 4 := HK.out.1
  have HY : Hid (Bytes (byteL l)) := byteL_bytes HBY.out.1
  have H0 : Hid ((fun i => if i = 0 then (((4 : Nat) : Int)) else 0) 0 = ((4 : Nat) : Int)) := rfl
  generalize byteL l = la0 at HC HR HL HY
  generalize byteF l false = fa0 at HC HR
  generalize (fun i => if i = 0 then (((4 : Nat) : Int)) else 0) = ca0 at HC HR H0 ⊢
  clear HBY HK HR_
  go_wp2_with fail
  try clear c0
  with_reducible refine (reyeInt g la0 fa0 _ HC.out.eye (Nat.le_trans HL.out (by decide))).mono ?_
  rintro e wa1 ⟨rfl, he⟩
  have HCa := Lib.hid (HC.out.look he)
  obtain ⟨u1, cq⟩ : ∃ u, wa1.cell? ⟨q, 18, none⟩ = some u := ⟨_, HCa.out.blk.get 18 (rowA_get (by decide))⟩
  have fq : wa1.frozen? ⟨q, 18, none⟩ = false := Blk.frozen HCa.out.blk 18
  have HCb : Hid (RRC 32 (rowA cmdT 24 fun _ => 0) w (wa1.setCell ⟨q, 18, none⟩ (.int .i64 (unz (numR la0)))) r g q (rdL 1 la0) (rdF 1 la0 fa0) (rowA cmdT 24 (upd ca0 18 (rdV 1 la0)))) := by
    have h := HCa.out.cell 18 (.int .i64 (unz (numR la0)))
    have e : (rowA cmdT 24 ca0).setIfInBounds 18 (.int .i64 (unz (numR la0))) = rowA cmdT 24 (upd ca0 18 (rdV 1 la0)) := set_row (s := (1, 18)) rfl (by decide) ca0 (rdV 1 la0)
    rw [e] at h
    exact h
  have HRb : Hid (reads [] (rowA cmdT 24 (upd ca0 18 (rdV 1 la0))) (rdL 1 la0) (rdF 1 la0 fa0) = R) := rstep (s := (1, 18)) rfl (by decide) HR.out
  have H0b : Hid (upd ca0 18 (rdV 1 la0) 0 = ((4 : Nat) : Int)) := H0.out
  have HLb : Hid ((rdL 1 la0).length ≤ 500) := Nat.le_trans (rdL_len HY.out) HL.out
  have HYb : Hid (Bytes (rdL 1 la0)) := rdL_bytes HY.out
  have c0 : (wa1.setCell ⟨q, 18, none⟩ (.int .i64 (unz (numR la0)))).cell? ⟨q, 0, none⟩ = some (.int .u8 ((4 : Nat) : Int)) := HCb.out.blk.get 0 (by rw [rowA_get (by decide), H0b.out]; rfl)
  clear HC HCa HR H0 HL HY he
  go_wp2_with fail
  try clear c0
  clear cq fq
  generalize wa1.setCell ⟨q, 18, none⟩ (.int .i64 (unz (numR la0))) = wb1 at HCb ⊢
  generalize rdL 1 la0 = la1 at HCb HRb HLb HYb
  generalize rdF 1 la0 fa0 = fa1 at HCb HRb
  generalize upd ca0 18 (rdV 1 la0) = ca1 at HCb HRb H0b
  have HC := Lib.hid HCb.out
  have HR := Lib.hid HRb.out
  have H0 := Lib.hid H0b.out
  have HL := Lib.hid HLb.out
  have HY := Lib.hid HYb.out
  clear HCb HRb H0b HLb HYb
  obtain rfl : (rowA cmdT 24 ca1, la1, fa1) = R := HR.out
  with_reducible refine (reyeDone g la1 fa1 _ HC.out.eye).mono ?_
  rintro e wx ⟨rfl, rfl⟩
  have hd : doneB la1 fa1 = false := HD.out
  rw [hd]
  clear hd
  go_wp2_with (first | (refine wpList_store_part rfl 32 _ _ rfl r 0 _ rfl rfl 32 _ HC.out.res (by simp [rowA_size]) (by first | (rw [rowA_size]; kernel_rfl) | kernel_rfl) (by first | exact rowA_one | simp [Value.oneCell']) ?_; intro w9 hb9 hf9; rw [zero_cmd, rowA_whole] at hb9; have H9 := Lib.hid (HC.out.put hb9 hf9); clear hb9 hf9))
  refine result_blk2 (k := 2) (j := 3) rfl rfl rfl H9.out.res Try.underlying32 rfl (by rw [rowA_size]; kernel_rfl) rfl ?_
  exact ⟨rfl, H9.out.below⟩

set_option maxHeartbeats 16000000 in
theorem ref_read_5_ok (l : List Nat) (w : World) (R : Array Value × List Nat × Bool) (hl : Bytes l) (hl5 : l.length ≤ 500) (hkk : byteR l = 5) (hRR : reads (slotsOf 5) (rowA cmdT 24 fun i => if i = 0 then (((5 : Nat) : Int)) else 0) (byteL l) (byteF l false) = R) (hD : doneB R.2.1 R.2.2 = true) :
    Calls Try.prog 8 #[.string (bs l)] w fun e w' => e = .returned (.tuple #[.agg R.1, .int .i64 0]) ∧ Below w.heap.size w w' := by
  have HR := Lib.hid hRR
  have HD := Lib.hid hD
  clear hRR hD
  have HBY := Lib.hid (And.intro hl hl5)
  clear hl hl5
  obtain ⟨r, hr⟩ : ∃ r, w.heap.size = r := ⟨_, rfl⟩
  rw [hr]
  have HR_ := Lib.hid hr
  clear hr
  go_enter Try.func8, Try.ntmps8
  go_upto_region 2 with (fail)
  rw [zero_cmd]
  try rw [HR_.out]
  have a0 := (Blk.new w 32 (rowA cmdT 24 fun _ => 0)).alloc (.cells #[.string (bs l), .bool false] 66)
  have a1 : Blk ((w.alloc (.cells (rowA cmdT 24 fun _ => 0) 32)).alloc (.cells #[.string (bs l), .bool false] 66)) (w.heap.size + 1) 66 #[.string (bs l), .bool false] := Blk.new_at (by simp)
  have ab : Below w.heap.size w ((w.alloc (.cells (rowA cmdT 24 fun _ => 0) 32)).alloc (.cells #[.string (bs l), .bool false] 66)) := by go_grown
  have az : ((w.alloc (.cells (rowA cmdT 24 fun _ => 0) 32)).alloc (.cells #[.string (bs l), .bool false] 66)).heap.size = w.heap.size + 2 := by simp
  rw [HR_.out] at a0 a1 ab az
  generalize (w.alloc (.cells (rowA cmdT 24 fun _ => 0) 32)).alloc (.cells #[.string (bs l), .bool false] 66) = w1 at a0 a1 ab az ⊢
  have he : REyeAt w1 (r + 1) l false := ⟨a1, HBY.out.1, fun e => by cases e⟩
  have HA := Lib.hid (And.intro a0 (And.intro he (And.intro ab az)))
  clear a0 a1 ab az he
  go_wp2_with fail
  with_reducible refine (reyeByte (r + 1) l false w1 HA.out.2.1).mono ?_
  rintro e w3 ⟨rfl, he, hf⟩
  have H3 := Lib.hid (And.intro he hf)
  clear he hf
  obtain ⟨k, hk⟩ : ∃ k, byteR l = k := ⟨_, rfl⟩
  rw [hk] at hkk ⊢
  have HK := Lib.hid (And.intro hkk hk)
  clear hkk hk
  go_upto_region 3 with (first | (refine wpList_store_part rfl 32 _ _ rfl _ 0 _ rfl rfl 32 _ (Blk.new_at (by simp)) (by simp) (by kernel_rfl) (by simp [Value.oneCell']) ?_; intro w4 hb4 hf4; rw [zero_cmd, kind_cmd, rowA_whole] at hb4; rw [zero_cmd] at hf4; rw [kind_cmd (k : Int)]; have H4 := Lib.hid (And.intro hb4 hf4); clear hb4 hf4))
  obtain ⟨q, hq⟩ : ∃ q, w3.heap.size = q := ⟨_, rfl⟩
  obtain ⟨g, hg⟩ : ∃ g, r + 1 = g := ⟨_, rfl⟩
  rw [hq] at H4 ⊢
  rw [hg] at H3 HA ⊢
  have HC : Hid (RRC 32 (rowA cmdT 24 fun _ => 0) w w4 r g q (byteL l) (byteF l false) (rowA cmdT 24 fun i => if i = 0 then (k : Int) else 0)) := by
    have z1 := HA.out.2.2.2
    have z3 := H3.out.2.size
    have b3 : Below r w w3 := HA.out.2.2.1.trans (H3.out.2.below (by omega) (fun j hj e => by omega))
    exact ⟨((HA.out.1.fr H3.out.2 (by omega)).alloc _).fr H4.out.2 (by omega), (H3.out.1.below ((Below.refl _ _).alloc (Nat.le_refl _) _)).fr H4.out.2 (by omega), H4.out.1, (b3.alloc (by omega) _).trans (H4.out.2.below (by rw [World.size_alloc]; omega) (fun j hj e => by omega)), by omega, by omega, by omega, by omega, by omega⟩
  have HL : Hid ((byteL l).length ≤ 500) := Nat.le_trans (by cases l <;> simp [byteL]) HBY.out.2
  clear hq hg H4 H3 HA
  have c0 : w4.cell? ⟨q, 0, none⟩ = some (.int .u8 (k : Int)) := HC.out.blk.get 0 (rowA_get (by decide))
  obtain rfl : k = 5 := HK.out.1
  have HY : Hid (Bytes (byteL l)) := byteL_bytes HBY.out.1
  have H0 : Hid ((fun i => if i = 0 then (((5 : Nat) : Int)) else 0) 0 = ((5 : Nat) : Int)) := rfl
  generalize byteL l = la0 at HC HR HL HY
  generalize byteF l false = fa0 at HC HR
  generalize (fun i => if i = 0 then (((5 : Nat) : Int)) else 0) = ca0 at HC HR H0 ⊢
  clear HBY HK HR_
  go_wp2_with fail
  try clear c0
  with_reducible refine (reyeNum g la0 fa0 _ HC.out.eye (Nat.le_trans HL.out (by decide))).mono ?_
  rintro e wa1 ⟨rfl, he⟩
  have HCa := Lib.hid (HC.out.look he)
  obtain ⟨u1, cq⟩ : ∃ u, wa1.cell? ⟨q, 19, none⟩ = some u := ⟨_, HCa.out.blk.get 19 (rowA_get (by decide))⟩
  have fq : wa1.frozen? ⟨q, 19, none⟩ = false := Blk.frozen HCa.out.blk 19
  have HCb : Hid (RRC 32 (rowA cmdT 24 fun _ => 0) w (wa1.setCell ⟨q, 19, none⟩ (.int .u64 ((numR la0 : Nat) : Int))) r g q (rdL 0 la0) (rdF 0 la0 fa0) (rowA cmdT 24 (upd ca0 19 (rdV 0 la0)))) := by
    have h := HCa.out.cell 19 (.int .u64 ((numR la0 : Nat) : Int))
    have e : (rowA cmdT 24 ca0).setIfInBounds 19 (.int .u64 ((numR la0 : Nat) : Int)) = rowA cmdT 24 (upd ca0 19 (rdV 0 la0)) := set_row (s := (0, 19)) rfl (by decide) ca0 (rdV 0 la0)
    rw [e] at h
    exact h
  have HRb : Hid (reads [(1, 20), (1, 21), (0, 22)] (rowA cmdT 24 (upd ca0 19 (rdV 0 la0))) (rdL 0 la0) (rdF 0 la0 fa0) = R) := rstep (s := (0, 19)) rfl (by decide) HR.out
  have H0b : Hid (upd ca0 19 (rdV 0 la0) 0 = ((5 : Nat) : Int)) := H0.out
  have HLb : Hid ((rdL 0 la0).length ≤ 500) := Nat.le_trans (rdL_len HY.out) HL.out
  have HYb : Hid (Bytes (rdL 0 la0)) := rdL_bytes HY.out
  have c0 : (wa1.setCell ⟨q, 19, none⟩ (.int .u64 ((numR la0 : Nat) : Int))).cell? ⟨q, 0, none⟩ = some (.int .u8 ((5 : Nat) : Int)) := HCb.out.blk.get 0 (by rw [rowA_get (by decide), H0b.out]; rfl)
  clear HC HCa HR H0 HL HY he
  go_wp2_with fail
  try clear c0
  clear cq fq
  generalize wa1.setCell ⟨q, 19, none⟩ (.int .u64 ((numR la0 : Nat) : Int)) = wb1 at HCb ⊢
  generalize rdL 0 la0 = la1 at HCb HRb HLb HYb
  generalize rdF 0 la0 fa0 = fa1 at HCb HRb
  generalize upd ca0 19 (rdV 0 la0) = ca1 at HCb HRb H0b
  have HC := Lib.hid HCb.out
  have HR := Lib.hid HRb.out
  have H0 := Lib.hid H0b.out
  have HL := Lib.hid HLb.out
  have HY := Lib.hid HYb.out
  clear HCb HRb H0b HLb HYb
  with_reducible refine (reyeInt g la1 fa1 _ HC.out.eye (Nat.le_trans HL.out (by decide))).mono ?_
  rintro e wa2 ⟨rfl, he⟩
  have HCa := Lib.hid (HC.out.look he)
  obtain ⟨u2, cq⟩ : ∃ u, wa2.cell? ⟨q, 20, none⟩ = some u := ⟨_, HCa.out.blk.get 20 (rowA_get (by decide))⟩
  have fq : wa2.frozen? ⟨q, 20, none⟩ = false := Blk.frozen HCa.out.blk 20
  have HCb : Hid (RRC 32 (rowA cmdT 24 fun _ => 0) w (wa2.setCell ⟨q, 20, none⟩ (.int .i64 (unz (numR la1)))) r g q (rdL 1 la1) (rdF 1 la1 fa1) (rowA cmdT 24 (upd ca1 20 (rdV 1 la1)))) := by
    have h := HCa.out.cell 20 (.int .i64 (unz (numR la1)))
    have e : (rowA cmdT 24 ca1).setIfInBounds 20 (.int .i64 (unz (numR la1))) = rowA cmdT 24 (upd ca1 20 (rdV 1 la1)) := set_row (s := (1, 20)) rfl (by decide) ca1 (rdV 1 la1)
    rw [e] at h
    exact h
  have HRb : Hid (reads [(1, 21), (0, 22)] (rowA cmdT 24 (upd ca1 20 (rdV 1 la1))) (rdL 1 la1) (rdF 1 la1 fa1) = R) := rstep (s := (1, 20)) rfl (by decide) HR.out
  have H0b : Hid (upd ca1 20 (rdV 1 la1) 0 = ((5 : Nat) : Int)) := H0.out
  have HLb : Hid ((rdL 1 la1).length ≤ 500) := Nat.le_trans (rdL_len HY.out) HL.out
  have HYb : Hid (Bytes (rdL 1 la1)) := rdL_bytes HY.out
  have c0 : (wa2.setCell ⟨q, 20, none⟩ (.int .i64 (unz (numR la1)))).cell? ⟨q, 0, none⟩ = some (.int .u8 ((5 : Nat) : Int)) := HCb.out.blk.get 0 (by rw [rowA_get (by decide), H0b.out]; rfl)
  clear HC HCa HR H0 HL HY he
  go_wp2_with fail
  try clear c0
  clear cq fq
  generalize wa2.setCell ⟨q, 20, none⟩ (.int .i64 (unz (numR la1))) = wb2 at HCb ⊢
  generalize rdL 1 la1 = la2 at HCb HRb HLb HYb
  generalize rdF 1 la1 fa1 = fa2 at HCb HRb
  generalize upd ca1 20 (rdV 1 la1) = ca2 at HCb HRb H0b
  have HC := Lib.hid HCb.out
  have HR := Lib.hid HRb.out
  have H0 := Lib.hid H0b.out
  have HL := Lib.hid HLb.out
  have HY := Lib.hid HYb.out
  clear HCb HRb H0b HLb HYb
  with_reducible refine (reyeInt g la2 fa2 _ HC.out.eye (Nat.le_trans HL.out (by decide))).mono ?_
  rintro e wa3 ⟨rfl, he⟩
  have HCa := Lib.hid (HC.out.look he)
  obtain ⟨u3, cq⟩ : ∃ u, wa3.cell? ⟨q, 21, none⟩ = some u := ⟨_, HCa.out.blk.get 21 (rowA_get (by decide))⟩
  have fq : wa3.frozen? ⟨q, 21, none⟩ = false := Blk.frozen HCa.out.blk 21
  have HCb : Hid (RRC 32 (rowA cmdT 24 fun _ => 0) w (wa3.setCell ⟨q, 21, none⟩ (.int .i64 (unz (numR la2)))) r g q (rdL 1 la2) (rdF 1 la2 fa2) (rowA cmdT 24 (upd ca2 21 (rdV 1 la2)))) := by
    have h := HCa.out.cell 21 (.int .i64 (unz (numR la2)))
    have e : (rowA cmdT 24 ca2).setIfInBounds 21 (.int .i64 (unz (numR la2))) = rowA cmdT 24 (upd ca2 21 (rdV 1 la2)) := set_row (s := (1, 21)) rfl (by decide) ca2 (rdV 1 la2)
    rw [e] at h
    exact h
  have HRb : Hid (reads [(0, 22)] (rowA cmdT 24 (upd ca2 21 (rdV 1 la2))) (rdL 1 la2) (rdF 1 la2 fa2) = R) := rstep (s := (1, 21)) rfl (by decide) HR.out
  have H0b : Hid (upd ca2 21 (rdV 1 la2) 0 = ((5 : Nat) : Int)) := H0.out
  have HLb : Hid ((rdL 1 la2).length ≤ 500) := Nat.le_trans (rdL_len HY.out) HL.out
  have HYb : Hid (Bytes (rdL 1 la2)) := rdL_bytes HY.out
  have c0 : (wa3.setCell ⟨q, 21, none⟩ (.int .i64 (unz (numR la2)))).cell? ⟨q, 0, none⟩ = some (.int .u8 ((5 : Nat) : Int)) := HCb.out.blk.get 0 (by rw [rowA_get (by decide), H0b.out]; rfl)
  clear HC HCa HR H0 HL HY he
  go_wp2_with fail
  try clear c0
  clear cq fq
  generalize wa3.setCell ⟨q, 21, none⟩ (.int .i64 (unz (numR la2))) = wb3 at HCb ⊢
  generalize rdL 1 la2 = la3 at HCb HRb HLb HYb
  generalize rdF 1 la2 fa2 = fa3 at HCb HRb
  generalize upd ca2 21 (rdV 1 la2) = ca3 at HCb HRb H0b
  have HC := Lib.hid HCb.out
  have HR := Lib.hid HRb.out
  have H0 := Lib.hid H0b.out
  have HL := Lib.hid HLb.out
  have HY := Lib.hid HYb.out
  clear HCb HRb H0b HLb HYb
  with_reducible refine (reyeNum g la3 fa3 _ HC.out.eye (Nat.le_trans HL.out (by decide))).mono ?_
  rintro e wa4 ⟨rfl, he⟩
  have HCa := Lib.hid (HC.out.look he)
  obtain ⟨u4, cq⟩ : ∃ u, wa4.cell? ⟨q, 22, none⟩ = some u := ⟨_, HCa.out.blk.get 22 (rowA_get (by decide))⟩
  have fq : wa4.frozen? ⟨q, 22, none⟩ = false := Blk.frozen HCa.out.blk 22
  have HCb : Hid (RRC 32 (rowA cmdT 24 fun _ => 0) w (wa4.setCell ⟨q, 22, none⟩ (.int .u64 ((numR la3 : Nat) : Int))) r g q (rdL 0 la3) (rdF 0 la3 fa3) (rowA cmdT 24 (upd ca3 22 (rdV 0 la3)))) := by
    have h := HCa.out.cell 22 (.int .u64 ((numR la3 : Nat) : Int))
    have e : (rowA cmdT 24 ca3).setIfInBounds 22 (.int .u64 ((numR la3 : Nat) : Int)) = rowA cmdT 24 (upd ca3 22 (rdV 0 la3)) := set_row (s := (0, 22)) rfl (by decide) ca3 (rdV 0 la3)
    rw [e] at h
    exact h
  have HRb : Hid (reads [] (rowA cmdT 24 (upd ca3 22 (rdV 0 la3))) (rdL 0 la3) (rdF 0 la3 fa3) = R) := rstep (s := (0, 22)) rfl (by decide) HR.out
  have H0b : Hid (upd ca3 22 (rdV 0 la3) 0 = ((5 : Nat) : Int)) := H0.out
  have HLb : Hid ((rdL 0 la3).length ≤ 500) := Nat.le_trans (rdL_len HY.out) HL.out
  have HYb : Hid (Bytes (rdL 0 la3)) := rdL_bytes HY.out
  have c0 : (wa4.setCell ⟨q, 22, none⟩ (.int .u64 ((numR la3 : Nat) : Int))).cell? ⟨q, 0, none⟩ = some (.int .u8 ((5 : Nat) : Int)) := HCb.out.blk.get 0 (by rw [rowA_get (by decide), H0b.out]; rfl)
  clear HC HCa HR H0 HL HY he
  go_wp2_with fail
  try clear c0
  clear cq fq
  generalize wa4.setCell ⟨q, 22, none⟩ (.int .u64 ((numR la3 : Nat) : Int)) = wb4 at HCb ⊢
  generalize rdL 0 la3 = la4 at HCb HRb HLb HYb
  generalize rdF 0 la3 fa3 = fa4 at HCb HRb
  generalize upd ca3 22 (rdV 0 la3) = ca4 at HCb HRb H0b
  have HC := Lib.hid HCb.out
  have HR := Lib.hid HRb.out
  have H0 := Lib.hid H0b.out
  have HL := Lib.hid HLb.out
  have HY := Lib.hid HYb.out
  clear HCb HRb H0b HLb HYb
  obtain rfl : (rowA cmdT 24 ca4, la4, fa4) = R := HR.out
  with_reducible refine (reyeDone g la4 fa4 _ HC.out.eye).mono ?_
  rintro e wx ⟨rfl, rfl⟩
  have hd : doneB la4 fa4 = true := HD.out
  rw [hd]
  clear hd
  go_wp2_with (first | (refine wpList_load_blk rfl 32 _ rfl q rfl 32 _ _ HC.out.blk Try.underlying32 rfl (by rw [rowA_size]; kernel_rfl) ?_) | (refine wpList_store_part rfl 32 _ _ rfl r 0 _ rfl rfl 32 _ HC.out.res (by rw [rowA_size, rowA_size]; decide) (by rw [rowA_size]; kernel_rfl) rowA_one ?_; intro w9 hb9 hf9; rw [rowA_whole] at hb9; have H9 := Lib.hid (HC.out.put hb9 hf9); clear hb9 hf9))
  refine result_blk2 (k := 2) (j := 3) rfl rfl rfl H9.out.res Try.underlying32 rfl (by rw [rowA_size]; kernel_rfl) rfl ?_
  exact ⟨rfl, H9.out.below⟩

set_option maxHeartbeats 16000000 in
theorem ref_read_5_end (l : List Nat) (w : World) (R : Array Value × List Nat × Bool) (hl : Bytes l) (hl5 : l.length ≤ 500) (hkk : byteR l = 5) (hRR : reads (slotsOf 5) (rowA cmdT 24 fun i => if i = 0 then (((5 : Nat) : Int)) else 0) (byteL l) (byteF l false) = R) (hD : doneB R.2.1 R.2.2 = false) :
    Calls Try.prog 8 #[.string (bs l)] w fun e w' => e = .returned (.tuple #[.agg (rowA cmdT 24 fun _ => 0), .int .i64 140]) ∧ Below w.heap.size w w' := by
  have HR := Lib.hid hRR
  have HD := Lib.hid hD
  clear hRR hD
  have HBY := Lib.hid (And.intro hl hl5)
  clear hl hl5
  obtain ⟨r, hr⟩ : ∃ r, w.heap.size = r := ⟨_, rfl⟩
  rw [hr]
  have HR_ := Lib.hid hr
  clear hr
  go_enter Try.func8, Try.ntmps8
  go_upto_region 2 with (fail)
  rw [zero_cmd]
  try rw [HR_.out]
  have a0 := (Blk.new w 32 (rowA cmdT 24 fun _ => 0)).alloc (.cells #[.string (bs l), .bool false] 66)
  have a1 : Blk ((w.alloc (.cells (rowA cmdT 24 fun _ => 0) 32)).alloc (.cells #[.string (bs l), .bool false] 66)) (w.heap.size + 1) 66 #[.string (bs l), .bool false] := Blk.new_at (by simp)
  have ab : Below w.heap.size w ((w.alloc (.cells (rowA cmdT 24 fun _ => 0) 32)).alloc (.cells #[.string (bs l), .bool false] 66)) := by go_grown
  have az : ((w.alloc (.cells (rowA cmdT 24 fun _ => 0) 32)).alloc (.cells #[.string (bs l), .bool false] 66)).heap.size = w.heap.size + 2 := by simp
  rw [HR_.out] at a0 a1 ab az
  generalize (w.alloc (.cells (rowA cmdT 24 fun _ => 0) 32)).alloc (.cells #[.string (bs l), .bool false] 66) = w1 at a0 a1 ab az ⊢
  have he : REyeAt w1 (r + 1) l false := ⟨a1, HBY.out.1, fun e => by cases e⟩
  have HA := Lib.hid (And.intro a0 (And.intro he (And.intro ab az)))
  clear a0 a1 ab az he
  go_wp2_with fail
  with_reducible refine (reyeByte (r + 1) l false w1 HA.out.2.1).mono ?_
  rintro e w3 ⟨rfl, he, hf⟩
  have H3 := Lib.hid (And.intro he hf)
  clear he hf
  obtain ⟨k, hk⟩ : ∃ k, byteR l = k := ⟨_, rfl⟩
  rw [hk] at hkk ⊢
  have HK := Lib.hid (And.intro hkk hk)
  clear hkk hk
  go_upto_region 3 with (first | (refine wpList_store_part rfl 32 _ _ rfl _ 0 _ rfl rfl 32 _ (Blk.new_at (by simp)) (by simp) (by kernel_rfl) (by simp [Value.oneCell']) ?_; intro w4 hb4 hf4; rw [zero_cmd, kind_cmd, rowA_whole] at hb4; rw [zero_cmd] at hf4; rw [kind_cmd (k : Int)]; have H4 := Lib.hid (And.intro hb4 hf4); clear hb4 hf4))
  obtain ⟨q, hq⟩ : ∃ q, w3.heap.size = q := ⟨_, rfl⟩
  obtain ⟨g, hg⟩ : ∃ g, r + 1 = g := ⟨_, rfl⟩
  rw [hq] at H4 ⊢
  rw [hg] at H3 HA ⊢
  have HC : Hid (RRC 32 (rowA cmdT 24 fun _ => 0) w w4 r g q (byteL l) (byteF l false) (rowA cmdT 24 fun i => if i = 0 then (k : Int) else 0)) := by
    have z1 := HA.out.2.2.2
    have z3 := H3.out.2.size
    have b3 : Below r w w3 := HA.out.2.2.1.trans (H3.out.2.below (by omega) (fun j hj e => by omega))
    exact ⟨((HA.out.1.fr H3.out.2 (by omega)).alloc _).fr H4.out.2 (by omega), (H3.out.1.below ((Below.refl _ _).alloc (Nat.le_refl _) _)).fr H4.out.2 (by omega), H4.out.1, (b3.alloc (by omega) _).trans (H4.out.2.below (by rw [World.size_alloc]; omega) (fun j hj e => by omega)), by omega, by omega, by omega, by omega, by omega⟩
  have HL : Hid ((byteL l).length ≤ 500) := Nat.le_trans (by cases l <;> simp [byteL]) HBY.out.2
  clear hq hg H4 H3 HA
  have c0 : w4.cell? ⟨q, 0, none⟩ = some (.int .u8 (k : Int)) := HC.out.blk.get 0 (rowA_get (by decide))
  obtain rfl : k = 5 := HK.out.1
  have HY : Hid (Bytes (byteL l)) := byteL_bytes HBY.out.1
  have H0 : Hid ((fun i => if i = 0 then (((5 : Nat) : Int)) else 0) 0 = ((5 : Nat) : Int)) := rfl
  generalize byteL l = la0 at HC HR HL HY
  generalize byteF l false = fa0 at HC HR
  generalize (fun i => if i = 0 then (((5 : Nat) : Int)) else 0) = ca0 at HC HR H0 ⊢
  clear HBY HK HR_
  go_wp2_with fail
  try clear c0
  with_reducible refine (reyeNum g la0 fa0 _ HC.out.eye (Nat.le_trans HL.out (by decide))).mono ?_
  rintro e wa1 ⟨rfl, he⟩
  have HCa := Lib.hid (HC.out.look he)
  obtain ⟨u1, cq⟩ : ∃ u, wa1.cell? ⟨q, 19, none⟩ = some u := ⟨_, HCa.out.blk.get 19 (rowA_get (by decide))⟩
  have fq : wa1.frozen? ⟨q, 19, none⟩ = false := Blk.frozen HCa.out.blk 19
  have HCb : Hid (RRC 32 (rowA cmdT 24 fun _ => 0) w (wa1.setCell ⟨q, 19, none⟩ (.int .u64 ((numR la0 : Nat) : Int))) r g q (rdL 0 la0) (rdF 0 la0 fa0) (rowA cmdT 24 (upd ca0 19 (rdV 0 la0)))) := by
    have h := HCa.out.cell 19 (.int .u64 ((numR la0 : Nat) : Int))
    have e : (rowA cmdT 24 ca0).setIfInBounds 19 (.int .u64 ((numR la0 : Nat) : Int)) = rowA cmdT 24 (upd ca0 19 (rdV 0 la0)) := set_row (s := (0, 19)) rfl (by decide) ca0 (rdV 0 la0)
    rw [e] at h
    exact h
  have HRb : Hid (reads [(1, 20), (1, 21), (0, 22)] (rowA cmdT 24 (upd ca0 19 (rdV 0 la0))) (rdL 0 la0) (rdF 0 la0 fa0) = R) := rstep (s := (0, 19)) rfl (by decide) HR.out
  have H0b : Hid (upd ca0 19 (rdV 0 la0) 0 = ((5 : Nat) : Int)) := H0.out
  have HLb : Hid ((rdL 0 la0).length ≤ 500) := Nat.le_trans (rdL_len HY.out) HL.out
  have HYb : Hid (Bytes (rdL 0 la0)) := rdL_bytes HY.out
  have c0 : (wa1.setCell ⟨q, 19, none⟩ (.int .u64 ((numR la0 : Nat) : Int))).cell? ⟨q, 0, none⟩ = some (.int .u8 ((5 : Nat) : Int)) := HCb.out.blk.get 0 (by rw [rowA_get (by decide), H0b.out]; rfl)
  clear HC HCa HR H0 HL HY he
  go_wp2_with fail
  try clear c0
  clear cq fq
  generalize wa1.setCell ⟨q, 19, none⟩ (.int .u64 ((numR la0 : Nat) : Int)) = wb1 at HCb ⊢
  generalize rdL 0 la0 = la1 at HCb HRb HLb HYb
  generalize rdF 0 la0 fa0 = fa1 at HCb HRb
  generalize upd ca0 19 (rdV 0 la0) = ca1 at HCb HRb H0b
  have HC := Lib.hid HCb.out
  have HR := Lib.hid HRb.out
  have H0 := Lib.hid H0b.out
  have HL := Lib.hid HLb.out
  have HY := Lib.hid HYb.out
  clear HCb HRb H0b HLb HYb
  with_reducible refine (reyeInt g la1 fa1 _ HC.out.eye (Nat.le_trans HL.out (by decide))).mono ?_
  rintro e wa2 ⟨rfl, he⟩
  have HCa := Lib.hid (HC.out.look he)
  obtain ⟨u2, cq⟩ : ∃ u, wa2.cell? ⟨q, 20, none⟩ = some u := ⟨_, HCa.out.blk.get 20 (rowA_get (by decide))⟩
  have fq : wa2.frozen? ⟨q, 20, none⟩ = false := Blk.frozen HCa.out.blk 20
  have HCb : Hid (RRC 32 (rowA cmdT 24 fun _ => 0) w (wa2.setCell ⟨q, 20, none⟩ (.int .i64 (unz (numR la1)))) r g q (rdL 1 la1) (rdF 1 la1 fa1) (rowA cmdT 24 (upd ca1 20 (rdV 1 la1)))) := by
    have h := HCa.out.cell 20 (.int .i64 (unz (numR la1)))
    have e : (rowA cmdT 24 ca1).setIfInBounds 20 (.int .i64 (unz (numR la1))) = rowA cmdT 24 (upd ca1 20 (rdV 1 la1)) := set_row (s := (1, 20)) rfl (by decide) ca1 (rdV 1 la1)
    rw [e] at h
    exact h
  have HRb : Hid (reads [(1, 21), (0, 22)] (rowA cmdT 24 (upd ca1 20 (rdV 1 la1))) (rdL 1 la1) (rdF 1 la1 fa1) = R) := rstep (s := (1, 20)) rfl (by decide) HR.out
  have H0b : Hid (upd ca1 20 (rdV 1 la1) 0 = ((5 : Nat) : Int)) := H0.out
  have HLb : Hid ((rdL 1 la1).length ≤ 500) := Nat.le_trans (rdL_len HY.out) HL.out
  have HYb : Hid (Bytes (rdL 1 la1)) := rdL_bytes HY.out
  have c0 : (wa2.setCell ⟨q, 20, none⟩ (.int .i64 (unz (numR la1)))).cell? ⟨q, 0, none⟩ = some (.int .u8 ((5 : Nat) : Int)) := HCb.out.blk.get 0 (by rw [rowA_get (by decide), H0b.out]; rfl)
  clear HC HCa HR H0 HL HY he
  go_wp2_with fail
  try clear c0
  clear cq fq
  generalize wa2.setCell ⟨q, 20, none⟩ (.int .i64 (unz (numR la1))) = wb2 at HCb ⊢
  generalize rdL 1 la1 = la2 at HCb HRb HLb HYb
  generalize rdF 1 la1 fa1 = fa2 at HCb HRb
  generalize upd ca1 20 (rdV 1 la1) = ca2 at HCb HRb H0b
  have HC := Lib.hid HCb.out
  have HR := Lib.hid HRb.out
  have H0 := Lib.hid H0b.out
  have HL := Lib.hid HLb.out
  have HY := Lib.hid HYb.out
  clear HCb HRb H0b HLb HYb
  with_reducible refine (reyeInt g la2 fa2 _ HC.out.eye (Nat.le_trans HL.out (by decide))).mono ?_
  rintro e wa3 ⟨rfl, he⟩
  have HCa := Lib.hid (HC.out.look he)
  obtain ⟨u3, cq⟩ : ∃ u, wa3.cell? ⟨q, 21, none⟩ = some u := ⟨_, HCa.out.blk.get 21 (rowA_get (by decide))⟩
  have fq : wa3.frozen? ⟨q, 21, none⟩ = false := Blk.frozen HCa.out.blk 21
  have HCb : Hid (RRC 32 (rowA cmdT 24 fun _ => 0) w (wa3.setCell ⟨q, 21, none⟩ (.int .i64 (unz (numR la2)))) r g q (rdL 1 la2) (rdF 1 la2 fa2) (rowA cmdT 24 (upd ca2 21 (rdV 1 la2)))) := by
    have h := HCa.out.cell 21 (.int .i64 (unz (numR la2)))
    have e : (rowA cmdT 24 ca2).setIfInBounds 21 (.int .i64 (unz (numR la2))) = rowA cmdT 24 (upd ca2 21 (rdV 1 la2)) := set_row (s := (1, 21)) rfl (by decide) ca2 (rdV 1 la2)
    rw [e] at h
    exact h
  have HRb : Hid (reads [(0, 22)] (rowA cmdT 24 (upd ca2 21 (rdV 1 la2))) (rdL 1 la2) (rdF 1 la2 fa2) = R) := rstep (s := (1, 21)) rfl (by decide) HR.out
  have H0b : Hid (upd ca2 21 (rdV 1 la2) 0 = ((5 : Nat) : Int)) := H0.out
  have HLb : Hid ((rdL 1 la2).length ≤ 500) := Nat.le_trans (rdL_len HY.out) HL.out
  have HYb : Hid (Bytes (rdL 1 la2)) := rdL_bytes HY.out
  have c0 : (wa3.setCell ⟨q, 21, none⟩ (.int .i64 (unz (numR la2)))).cell? ⟨q, 0, none⟩ = some (.int .u8 ((5 : Nat) : Int)) := HCb.out.blk.get 0 (by rw [rowA_get (by decide), H0b.out]; rfl)
  clear HC HCa HR H0 HL HY he
  go_wp2_with fail
  try clear c0
  clear cq fq
  generalize wa3.setCell ⟨q, 21, none⟩ (.int .i64 (unz (numR la2))) = wb3 at HCb ⊢
  generalize rdL 1 la2 = la3 at HCb HRb HLb HYb
  generalize rdF 1 la2 fa2 = fa3 at HCb HRb
  generalize upd ca2 21 (rdV 1 la2) = ca3 at HCb HRb H0b
  have HC := Lib.hid HCb.out
  have HR := Lib.hid HRb.out
  have H0 := Lib.hid H0b.out
  have HL := Lib.hid HLb.out
  have HY := Lib.hid HYb.out
  clear HCb HRb H0b HLb HYb
  with_reducible refine (reyeNum g la3 fa3 _ HC.out.eye (Nat.le_trans HL.out (by decide))).mono ?_
  rintro e wa4 ⟨rfl, he⟩
  have HCa := Lib.hid (HC.out.look he)
  obtain ⟨u4, cq⟩ : ∃ u, wa4.cell? ⟨q, 22, none⟩ = some u := ⟨_, HCa.out.blk.get 22 (rowA_get (by decide))⟩
  have fq : wa4.frozen? ⟨q, 22, none⟩ = false := Blk.frozen HCa.out.blk 22
  have HCb : Hid (RRC 32 (rowA cmdT 24 fun _ => 0) w (wa4.setCell ⟨q, 22, none⟩ (.int .u64 ((numR la3 : Nat) : Int))) r g q (rdL 0 la3) (rdF 0 la3 fa3) (rowA cmdT 24 (upd ca3 22 (rdV 0 la3)))) := by
    have h := HCa.out.cell 22 (.int .u64 ((numR la3 : Nat) : Int))
    have e : (rowA cmdT 24 ca3).setIfInBounds 22 (.int .u64 ((numR la3 : Nat) : Int)) = rowA cmdT 24 (upd ca3 22 (rdV 0 la3)) := set_row (s := (0, 22)) rfl (by decide) ca3 (rdV 0 la3)
    rw [e] at h
    exact h
  have HRb : Hid (reads [] (rowA cmdT 24 (upd ca3 22 (rdV 0 la3))) (rdL 0 la3) (rdF 0 la3 fa3) = R) := rstep (s := (0, 22)) rfl (by decide) HR.out
  have H0b : Hid (upd ca3 22 (rdV 0 la3) 0 = ((5 : Nat) : Int)) := H0.out
  have HLb : Hid ((rdL 0 la3).length ≤ 500) := Nat.le_trans (rdL_len HY.out) HL.out
  have HYb : Hid (Bytes (rdL 0 la3)) := rdL_bytes HY.out
  have c0 : (wa4.setCell ⟨q, 22, none⟩ (.int .u64 ((numR la3 : Nat) : Int))).cell? ⟨q, 0, none⟩ = some (.int .u8 ((5 : Nat) : Int)) := HCb.out.blk.get 0 (by rw [rowA_get (by decide), H0b.out]; rfl)
  clear HC HCa HR H0 HL HY he
  go_wp2_with fail
  try clear c0
  clear cq fq
  generalize wa4.setCell ⟨q, 22, none⟩ (.int .u64 ((numR la3 : Nat) : Int)) = wb4 at HCb ⊢
  generalize rdL 0 la3 = la4 at HCb HRb HLb HYb
  generalize rdF 0 la3 fa3 = fa4 at HCb HRb
  generalize upd ca3 22 (rdV 0 la3) = ca4 at HCb HRb H0b
  have HC := Lib.hid HCb.out
  have HR := Lib.hid HRb.out
  have H0 := Lib.hid H0b.out
  have HL := Lib.hid HLb.out
  have HY := Lib.hid HYb.out
  clear HCb HRb H0b HLb HYb
  obtain rfl : (rowA cmdT 24 ca4, la4, fa4) = R := HR.out
  with_reducible refine (reyeDone g la4 fa4 _ HC.out.eye).mono ?_
  rintro e wx ⟨rfl, rfl⟩
  have hd : doneB la4 fa4 = false := HD.out
  rw [hd]
  clear hd
  go_wp2_with (first | (refine wpList_store_part rfl 32 _ _ rfl r 0 _ rfl rfl 32 _ HC.out.res (by simp [rowA_size]) (by first | (rw [rowA_size]; kernel_rfl) | kernel_rfl) (by first | exact rowA_one | simp [Value.oneCell']) ?_; intro w9 hb9 hf9; rw [zero_cmd, rowA_whole] at hb9; have H9 := Lib.hid (HC.out.put hb9 hf9); clear hb9 hf9))
  refine result_blk2 (k := 2) (j := 3) rfl rfl rfl H9.out.res Try.underlying32 rfl (by rw [rowA_size]; kernel_rfl) rfl ?_
  exact ⟨rfl, H9.out.below⟩

set_option maxHeartbeats 16000000 in
theorem ref_read_6_ok (l : List Nat) (w : World) (R : Array Value × List Nat × Bool) (hl : Bytes l) (hl5 : l.length ≤ 500) (hkk : byteR l = 6) (hRR : reads (slotsOf 6) (rowA cmdT 24 fun i => if i = 0 then (((6 : Nat) : Int)) else 0) (byteL l) (byteF l false) = R) (hD : doneB R.2.1 R.2.2 = true) :
    Calls Try.prog 8 #[.string (bs l)] w fun e w' => e = .returned (.tuple #[.agg R.1, .int .i64 0]) ∧ Below w.heap.size w w' := by
  have HR := Lib.hid hRR
  have HD := Lib.hid hD
  clear hRR hD
  have HBY := Lib.hid (And.intro hl hl5)
  clear hl hl5
  obtain ⟨r, hr⟩ : ∃ r, w.heap.size = r := ⟨_, rfl⟩
  rw [hr]
  have HR_ := Lib.hid hr
  clear hr
  go_enter Try.func8, Try.ntmps8
  go_upto_region 2 with (fail)
  rw [zero_cmd]
  try rw [HR_.out]
  have a0 := (Blk.new w 32 (rowA cmdT 24 fun _ => 0)).alloc (.cells #[.string (bs l), .bool false] 66)
  have a1 : Blk ((w.alloc (.cells (rowA cmdT 24 fun _ => 0) 32)).alloc (.cells #[.string (bs l), .bool false] 66)) (w.heap.size + 1) 66 #[.string (bs l), .bool false] := Blk.new_at (by simp)
  have ab : Below w.heap.size w ((w.alloc (.cells (rowA cmdT 24 fun _ => 0) 32)).alloc (.cells #[.string (bs l), .bool false] 66)) := by go_grown
  have az : ((w.alloc (.cells (rowA cmdT 24 fun _ => 0) 32)).alloc (.cells #[.string (bs l), .bool false] 66)).heap.size = w.heap.size + 2 := by simp
  rw [HR_.out] at a0 a1 ab az
  generalize (w.alloc (.cells (rowA cmdT 24 fun _ => 0) 32)).alloc (.cells #[.string (bs l), .bool false] 66) = w1 at a0 a1 ab az ⊢
  have he : REyeAt w1 (r + 1) l false := ⟨a1, HBY.out.1, fun e => by cases e⟩
  have HA := Lib.hid (And.intro a0 (And.intro he (And.intro ab az)))
  clear a0 a1 ab az he
  go_wp2_with fail
  with_reducible refine (reyeByte (r + 1) l false w1 HA.out.2.1).mono ?_
  rintro e w3 ⟨rfl, he, hf⟩
  have H3 := Lib.hid (And.intro he hf)
  clear he hf
  obtain ⟨k, hk⟩ : ∃ k, byteR l = k := ⟨_, rfl⟩
  rw [hk] at hkk ⊢
  have HK := Lib.hid (And.intro hkk hk)
  clear hkk hk
  go_upto_region 3 with (first | (refine wpList_store_part rfl 32 _ _ rfl _ 0 _ rfl rfl 32 _ (Blk.new_at (by simp)) (by simp) (by kernel_rfl) (by simp [Value.oneCell']) ?_; intro w4 hb4 hf4; rw [zero_cmd, kind_cmd, rowA_whole] at hb4; rw [zero_cmd] at hf4; rw [kind_cmd (k : Int)]; have H4 := Lib.hid (And.intro hb4 hf4); clear hb4 hf4))
  obtain ⟨q, hq⟩ : ∃ q, w3.heap.size = q := ⟨_, rfl⟩
  obtain ⟨g, hg⟩ : ∃ g, r + 1 = g := ⟨_, rfl⟩
  rw [hq] at H4 ⊢
  rw [hg] at H3 HA ⊢
  have HC : Hid (RRC 32 (rowA cmdT 24 fun _ => 0) w w4 r g q (byteL l) (byteF l false) (rowA cmdT 24 fun i => if i = 0 then (k : Int) else 0)) := by
    have z1 := HA.out.2.2.2
    have z3 := H3.out.2.size
    have b3 : Below r w w3 := HA.out.2.2.1.trans (H3.out.2.below (by omega) (fun j hj e => by omega))
    exact ⟨((HA.out.1.fr H3.out.2 (by omega)).alloc _).fr H4.out.2 (by omega), (H3.out.1.below ((Below.refl _ _).alloc (Nat.le_refl _) _)).fr H4.out.2 (by omega), H4.out.1, (b3.alloc (by omega) _).trans (H4.out.2.below (by rw [World.size_alloc]; omega) (fun j hj e => by omega)), by omega, by omega, by omega, by omega, by omega⟩
  have HL : Hid ((byteL l).length ≤ 500) := Nat.le_trans (by cases l <;> simp [byteL]) HBY.out.2
  clear hq hg H4 H3 HA
  have c0 : w4.cell? ⟨q, 0, none⟩ = some (.int .u8 (k : Int)) := HC.out.blk.get 0 (rowA_get (by decide))
  obtain rfl : k = 6 := HK.out.1
  have HY : Hid (Bytes (byteL l)) := byteL_bytes HBY.out.1
  have H0 : Hid ((fun i => if i = 0 then (((6 : Nat) : Int)) else 0) 0 = ((6 : Nat) : Int)) := rfl
  generalize byteL l = la0 at HC HR HL HY
  generalize byteF l false = fa0 at HC HR
  generalize (fun i => if i = 0 then (((6 : Nat) : Int)) else 0) = ca0 at HC HR H0 ⊢
  clear HBY HK HR_
  go_wp2_with fail
  try clear c0
  with_reducible refine (reyeNum g la0 fa0 _ HC.out.eye (Nat.le_trans HL.out (by decide))).mono ?_
  rintro e wa1 ⟨rfl, he⟩
  have HCa := Lib.hid (HC.out.look he)
  obtain ⟨u1, cq⟩ : ∃ u, wa1.cell? ⟨q, 23, none⟩ = some u := ⟨_, HCa.out.blk.get 23 (rowA_get (by decide))⟩
  have fq : wa1.frozen? ⟨q, 23, none⟩ = false := Blk.frozen HCa.out.blk 23
  have HCb : Hid (RRC 32 (rowA cmdT 24 fun _ => 0) w (wa1.setCell ⟨q, 23, none⟩ (.int .u64 ((numR la0 : Nat) : Int))) r g q (rdL 0 la0) (rdF 0 la0 fa0) (rowA cmdT 24 (upd ca0 23 (rdV 0 la0)))) := by
    have h := HCa.out.cell 23 (.int .u64 ((numR la0 : Nat) : Int))
    have e : (rowA cmdT 24 ca0).setIfInBounds 23 (.int .u64 ((numR la0 : Nat) : Int)) = rowA cmdT 24 (upd ca0 23 (rdV 0 la0)) := set_row (s := (0, 23)) rfl (by decide) ca0 (rdV 0 la0)
    rw [e] at h
    exact h
  have HRb : Hid (reads [] (rowA cmdT 24 (upd ca0 23 (rdV 0 la0))) (rdL 0 la0) (rdF 0 la0 fa0) = R) := rstep (s := (0, 23)) rfl (by decide) HR.out
  have H0b : Hid (upd ca0 23 (rdV 0 la0) 0 = ((6 : Nat) : Int)) := H0.out
  have HLb : Hid ((rdL 0 la0).length ≤ 500) := Nat.le_trans (rdL_len HY.out) HL.out
  have HYb : Hid (Bytes (rdL 0 la0)) := rdL_bytes HY.out
  have c0 : (wa1.setCell ⟨q, 23, none⟩ (.int .u64 ((numR la0 : Nat) : Int))).cell? ⟨q, 0, none⟩ = some (.int .u8 ((6 : Nat) : Int)) := HCb.out.blk.get 0 (by rw [rowA_get (by decide), H0b.out]; rfl)
  clear HC HCa HR H0 HL HY he
  go_wp2_with fail
  try clear c0
  clear cq fq
  generalize wa1.setCell ⟨q, 23, none⟩ (.int .u64 ((numR la0 : Nat) : Int)) = wb1 at HCb ⊢
  generalize rdL 0 la0 = la1 at HCb HRb HLb HYb
  generalize rdF 0 la0 fa0 = fa1 at HCb HRb
  generalize upd ca0 23 (rdV 0 la0) = ca1 at HCb HRb H0b
  have HC := Lib.hid HCb.out
  have HR := Lib.hid HRb.out
  have H0 := Lib.hid H0b.out
  have HL := Lib.hid HLb.out
  have HY := Lib.hid HYb.out
  clear HCb HRb H0b HLb HYb
  obtain rfl : (rowA cmdT 24 ca1, la1, fa1) = R := HR.out
  with_reducible refine (reyeDone g la1 fa1 _ HC.out.eye).mono ?_
  rintro e wx ⟨rfl, rfl⟩
  have hd : doneB la1 fa1 = true := HD.out
  rw [hd]
  clear hd
  go_wp2_with (first | (refine wpList_load_blk rfl 32 _ rfl q rfl 32 _ _ HC.out.blk Try.underlying32 rfl (by rw [rowA_size]; kernel_rfl) ?_) | (refine wpList_store_part rfl 32 _ _ rfl r 0 _ rfl rfl 32 _ HC.out.res (by rw [rowA_size, rowA_size]; decide) (by rw [rowA_size]; kernel_rfl) rowA_one ?_; intro w9 hb9 hf9; rw [rowA_whole] at hb9; have H9 := Lib.hid (HC.out.put hb9 hf9); clear hb9 hf9))
  refine result_blk2 (k := 2) (j := 3) rfl rfl rfl H9.out.res Try.underlying32 rfl (by rw [rowA_size]; kernel_rfl) rfl ?_
  exact ⟨rfl, H9.out.below⟩

set_option maxHeartbeats 16000000 in
theorem ref_read_6_end (l : List Nat) (w : World) (R : Array Value × List Nat × Bool) (hl : Bytes l) (hl5 : l.length ≤ 500) (hkk : byteR l = 6) (hRR : reads (slotsOf 6) (rowA cmdT 24 fun i => if i = 0 then (((6 : Nat) : Int)) else 0) (byteL l) (byteF l false) = R) (hD : doneB R.2.1 R.2.2 = false) :
    Calls Try.prog 8 #[.string (bs l)] w fun e w' => e = .returned (.tuple #[.agg (rowA cmdT 24 fun _ => 0), .int .i64 140]) ∧ Below w.heap.size w w' := by
  have HR := Lib.hid hRR
  have HD := Lib.hid hD
  clear hRR hD
  have HBY := Lib.hid (And.intro hl hl5)
  clear hl hl5
  obtain ⟨r, hr⟩ : ∃ r, w.heap.size = r := ⟨_, rfl⟩
  rw [hr]
  have HR_ := Lib.hid hr
  clear hr
  go_enter Try.func8, Try.ntmps8
  go_upto_region 2 with (fail)
  rw [zero_cmd]
  try rw [HR_.out]
  have a0 := (Blk.new w 32 (rowA cmdT 24 fun _ => 0)).alloc (.cells #[.string (bs l), .bool false] 66)
  have a1 : Blk ((w.alloc (.cells (rowA cmdT 24 fun _ => 0) 32)).alloc (.cells #[.string (bs l), .bool false] 66)) (w.heap.size + 1) 66 #[.string (bs l), .bool false] := Blk.new_at (by simp)
  have ab : Below w.heap.size w ((w.alloc (.cells (rowA cmdT 24 fun _ => 0) 32)).alloc (.cells #[.string (bs l), .bool false] 66)) := by go_grown
  have az : ((w.alloc (.cells (rowA cmdT 24 fun _ => 0) 32)).alloc (.cells #[.string (bs l), .bool false] 66)).heap.size = w.heap.size + 2 := by simp
  rw [HR_.out] at a0 a1 ab az
  generalize (w.alloc (.cells (rowA cmdT 24 fun _ => 0) 32)).alloc (.cells #[.string (bs l), .bool false] 66) = w1 at a0 a1 ab az ⊢
  have he : REyeAt w1 (r + 1) l false := ⟨a1, HBY.out.1, fun e => by cases e⟩
  have HA := Lib.hid (And.intro a0 (And.intro he (And.intro ab az)))
  clear a0 a1 ab az he
  go_wp2_with fail
  with_reducible refine (reyeByte (r + 1) l false w1 HA.out.2.1).mono ?_
  rintro e w3 ⟨rfl, he, hf⟩
  have H3 := Lib.hid (And.intro he hf)
  clear he hf
  obtain ⟨k, hk⟩ : ∃ k, byteR l = k := ⟨_, rfl⟩
  rw [hk] at hkk ⊢
  have HK := Lib.hid (And.intro hkk hk)
  clear hkk hk
  go_upto_region 3 with (first | (refine wpList_store_part rfl 32 _ _ rfl _ 0 _ rfl rfl 32 _ (Blk.new_at (by simp)) (by simp) (by kernel_rfl) (by simp [Value.oneCell']) ?_; intro w4 hb4 hf4; rw [zero_cmd, kind_cmd, rowA_whole] at hb4; rw [zero_cmd] at hf4; rw [kind_cmd (k : Int)]; have H4 := Lib.hid (And.intro hb4 hf4); clear hb4 hf4))
  obtain ⟨q, hq⟩ : ∃ q, w3.heap.size = q := ⟨_, rfl⟩
  obtain ⟨g, hg⟩ : ∃ g, r + 1 = g := ⟨_, rfl⟩
  rw [hq] at H4 ⊢
  rw [hg] at H3 HA ⊢
  have HC : Hid (RRC 32 (rowA cmdT 24 fun _ => 0) w w4 r g q (byteL l) (byteF l false) (rowA cmdT 24 fun i => if i = 0 then (k : Int) else 0)) := by
    have z1 := HA.out.2.2.2
    have z3 := H3.out.2.size
    have b3 : Below r w w3 := HA.out.2.2.1.trans (H3.out.2.below (by omega) (fun j hj e => by omega))
    exact ⟨((HA.out.1.fr H3.out.2 (by omega)).alloc _).fr H4.out.2 (by omega), (H3.out.1.below ((Below.refl _ _).alloc (Nat.le_refl _) _)).fr H4.out.2 (by omega), H4.out.1, (b3.alloc (by omega) _).trans (H4.out.2.below (by rw [World.size_alloc]; omega) (fun j hj e => by omega)), by omega, by omega, by omega, by omega, by omega⟩
  have HL : Hid ((byteL l).length ≤ 500) := Nat.le_trans (by cases l <;> simp [byteL]) HBY.out.2
  clear hq hg H4 H3 HA
  have c0 : w4.cell? ⟨q, 0, none⟩ = some (.int .u8 (k : Int)) := HC.out.blk.get 0 (rowA_get (by decide))
  obtain rfl : k = 6 := HK.out.1
  have HY : Hid (Bytes (byteL l)) := byteL_bytes HBY.out.1
  have H0 : Hid ((fun i => if i = 0 then (((6 : Nat) : Int)) else 0) 0 = ((6 : Nat) : Int)) := rfl
  generalize byteL l = la0 at HC HR HL HY
  generalize byteF l false = fa0 at HC HR
  generalize (fun i => if i = 0 then (((6 : Nat) : Int)) else 0) = ca0 at HC HR H0 ⊢
  clear HBY HK HR_
  go_wp2_with fail
  try clear c0
  with_reducible refine (reyeNum g la0 fa0 _ HC.out.eye (Nat.le_trans HL.out (by decide))).mono ?_
  rintro e wa1 ⟨rfl, he⟩
  have HCa := Lib.hid (HC.out.look he)
  obtain ⟨u1, cq⟩ : ∃ u, wa1.cell? ⟨q, 23, none⟩ = some u := ⟨_, HCa.out.blk.get 23 (rowA_get (by decide))⟩
  have fq : wa1.frozen? ⟨q, 23, none⟩ = false := Blk.frozen HCa.out.blk 23
  have HCb : Hid (RRC 32 (rowA cmdT 24 fun _ => 0) w (wa1.setCell ⟨q, 23, none⟩ (.int .u64 ((numR la0 : Nat) : Int))) r g q (rdL 0 la0) (rdF 0 la0 fa0) (rowA cmdT 24 (upd ca0 23 (rdV 0 la0)))) := by
    have h := HCa.out.cell 23 (.int .u64 ((numR la0 : Nat) : Int))
    have e : (rowA cmdT 24 ca0).setIfInBounds 23 (.int .u64 ((numR la0 : Nat) : Int)) = rowA cmdT 24 (upd ca0 23 (rdV 0 la0)) := set_row (s := (0, 23)) rfl (by decide) ca0 (rdV 0 la0)
    rw [e] at h
    exact h
  have HRb : Hid (reads [] (rowA cmdT 24 (upd ca0 23 (rdV 0 la0))) (rdL 0 la0) (rdF 0 la0 fa0) = R) := rstep (s := (0, 23)) rfl (by decide) HR.out
  have H0b : Hid (upd ca0 23 (rdV 0 la0) 0 = ((6 : Nat) : Int)) := H0.out
  have HLb : Hid ((rdL 0 la0).length ≤ 500) := Nat.le_trans (rdL_len HY.out) HL.out
  have HYb : Hid (Bytes (rdL 0 la0)) := rdL_bytes HY.out
  have c0 : (wa1.setCell ⟨q, 23, none⟩ (.int .u64 ((numR la0 : Nat) : Int))).cell? ⟨q, 0, none⟩ = some (.int .u8 ((6 : Nat) : Int)) := HCb.out.blk.get 0 (by rw [rowA_get (by decide), H0b.out]; rfl)
  clear HC HCa HR H0 HL HY he
  go_wp2_with fail
  try clear c0
  clear cq fq
  generalize wa1.setCell ⟨q, 23, none⟩ (.int .u64 ((numR la0 : Nat) : Int)) = wb1 at HCb ⊢
  generalize rdL 0 la0 = la1 at HCb HRb HLb HYb
  generalize rdF 0 la0 fa0 = fa1 at HCb HRb
  generalize upd ca0 23 (rdV 0 la0) = ca1 at HCb HRb H0b
  have HC := Lib.hid HCb.out
  have HR := Lib.hid HRb.out
  have H0 := Lib.hid H0b.out
  have HL := Lib.hid HLb.out
  have HY := Lib.hid HYb.out
  clear HCb HRb H0b HLb HYb
  obtain rfl : (rowA cmdT 24 ca1, la1, fa1) = R := HR.out
  with_reducible refine (reyeDone g la1 fa1 _ HC.out.eye).mono ?_
  rintro e wx ⟨rfl, rfl⟩
  have hd : doneB la1 fa1 = false := HD.out
  rw [hd]
  clear hd
  go_wp2_with (first | (refine wpList_store_part rfl 32 _ _ rfl r 0 _ rfl rfl 32 _ HC.out.res (by simp [rowA_size]) (by first | (rw [rowA_size]; kernel_rfl) | kernel_rfl) (by first | exact rowA_one | simp [Value.oneCell']) ?_; intro w9 hb9 hf9; rw [zero_cmd, rowA_whole] at hb9; have H9 := Lib.hid (HC.out.put hb9 hf9); clear hb9 hf9))
  refine result_blk2 (k := 2) (j := 3) rfl rfl rfl H9.out.res Try.underlying32 rfl (by rw [rowA_size]; kernel_rfl) rfl ?_
  exact ⟨rfl, H9.out.below⟩

set_option maxHeartbeats 16000000 in
theorem ref_read_7_ok (l : List Nat) (w : World) (R : Array Value × List Nat × Bool) (hl : Bytes l) (hl5 : l.length ≤ 500) (hkk : byteR l = 7) (hRR : reads (slotsOf 7) (rowA cmdT 24 fun i => if i = 0 then (((7 : Nat) : Int)) else 0) (byteL l) (byteF l false) = R) (hD : doneB R.2.1 R.2.2 = true) :
    Calls Try.prog 8 #[.string (bs l)] w fun e w' => e = .returned (.tuple #[.agg R.1, .int .i64 0]) ∧ Below w.heap.size w w' := by
  have HR := Lib.hid hRR
  have HD := Lib.hid hD
  clear hRR hD
  have HBY := Lib.hid (And.intro hl hl5)
  clear hl hl5
  obtain ⟨r, hr⟩ : ∃ r, w.heap.size = r := ⟨_, rfl⟩
  rw [hr]
  have HR_ := Lib.hid hr
  clear hr
  go_enter Try.func8, Try.ntmps8
  go_upto_region 2 with (fail)
  rw [zero_cmd]
  try rw [HR_.out]
  have a0 := (Blk.new w 32 (rowA cmdT 24 fun _ => 0)).alloc (.cells #[.string (bs l), .bool false] 66)
  have a1 : Blk ((w.alloc (.cells (rowA cmdT 24 fun _ => 0) 32)).alloc (.cells #[.string (bs l), .bool false] 66)) (w.heap.size + 1) 66 #[.string (bs l), .bool false] := Blk.new_at (by simp)
  have ab : Below w.heap.size w ((w.alloc (.cells (rowA cmdT 24 fun _ => 0) 32)).alloc (.cells #[.string (bs l), .bool false] 66)) := by go_grown
  have az : ((w.alloc (.cells (rowA cmdT 24 fun _ => 0) 32)).alloc (.cells #[.string (bs l), .bool false] 66)).heap.size = w.heap.size + 2 := by simp
  rw [HR_.out] at a0 a1 ab az
  generalize (w.alloc (.cells (rowA cmdT 24 fun _ => 0) 32)).alloc (.cells #[.string (bs l), .bool false] 66) = w1 at a0 a1 ab az ⊢
  have he : REyeAt w1 (r + 1) l false := ⟨a1, HBY.out.1, fun e => by cases e⟩
  have HA := Lib.hid (And.intro a0 (And.intro he (And.intro ab az)))
  clear a0 a1 ab az he
  go_wp2_with fail
  with_reducible refine (reyeByte (r + 1) l false w1 HA.out.2.1).mono ?_
  rintro e w3 ⟨rfl, he, hf⟩
  have H3 := Lib.hid (And.intro he hf)
  clear he hf
  obtain ⟨k, hk⟩ : ∃ k, byteR l = k := ⟨_, rfl⟩
  rw [hk] at hkk ⊢
  have HK := Lib.hid (And.intro hkk hk)
  clear hkk hk
  go_upto_region 3 with (first | (refine wpList_store_part rfl 32 _ _ rfl _ 0 _ rfl rfl 32 _ (Blk.new_at (by simp)) (by simp) (by kernel_rfl) (by simp [Value.oneCell']) ?_; intro w4 hb4 hf4; rw [zero_cmd, kind_cmd, rowA_whole] at hb4; rw [zero_cmd] at hf4; rw [kind_cmd (k : Int)]; have H4 := Lib.hid (And.intro hb4 hf4); clear hb4 hf4))
  obtain ⟨q, hq⟩ : ∃ q, w3.heap.size = q := ⟨_, rfl⟩
  obtain ⟨g, hg⟩ : ∃ g, r + 1 = g := ⟨_, rfl⟩
  rw [hq] at H4 ⊢
  rw [hg] at H3 HA ⊢
  have HC : Hid (RRC 32 (rowA cmdT 24 fun _ => 0) w w4 r g q (byteL l) (byteF l false) (rowA cmdT 24 fun i => if i = 0 then (k : Int) else 0)) := by
    have z1 := HA.out.2.2.2
    have z3 := H3.out.2.size
    have b3 : Below r w w3 := HA.out.2.2.1.trans (H3.out.2.below (by omega) (fun j hj e => by omega))
    exact ⟨((HA.out.1.fr H3.out.2 (by omega)).alloc _).fr H4.out.2 (by omega), (H3.out.1.below ((Below.refl _ _).alloc (Nat.le_refl _) _)).fr H4.out.2 (by omega), H4.out.1, (b3.alloc (by omega) _).trans (H4.out.2.below (by rw [World.size_alloc]; omega) (fun j hj e => by omega)), by omega, by omega, by omega, by omega, by omega⟩
  have HL : Hid ((byteL l).length ≤ 500) := Nat.le_trans (by cases l <;> simp [byteL]) HBY.out.2
  clear hq hg H4 H3 HA
  have c0 : w4.cell? ⟨q, 0, none⟩ = some (.int .u8 (k : Int)) := HC.out.blk.get 0 (rowA_get (by decide))
  obtain rfl : k = 7 := HK.out.1
  have HY : Hid (Bytes (byteL l)) := byteL_bytes HBY.out.1
  have H0 : Hid ((fun i => if i = 0 then (((7 : Nat) : Int)) else 0) 0 = ((7 : Nat) : Int)) := rfl
  generalize byteL l = la0 at HC HR HL HY
  generalize byteF l false = fa0 at HC HR
  generalize (fun i => if i = 0 then (((7 : Nat) : Int)) else 0) = ca0 at HC HR H0 ⊢
  clear HBY HK HR_
  go_wp2_with fail
  try clear c0
  with_reducible refine (reyeInt g la0 fa0 _ HC.out.eye (Nat.le_trans HL.out (by decide))).mono ?_
  rintro e wa1 ⟨rfl, he⟩
  have HCa := Lib.hid (HC.out.look he)
  obtain ⟨u1, cq⟩ : ∃ u, wa1.cell? ⟨q, 18, none⟩ = some u := ⟨_, HCa.out.blk.get 18 (rowA_get (by decide))⟩
  have fq : wa1.frozen? ⟨q, 18, none⟩ = false := Blk.frozen HCa.out.blk 18
  have HCb : Hid (RRC 32 (rowA cmdT 24 fun _ => 0) w (wa1.setCell ⟨q, 18, none⟩ (.int .i64 (unz (numR la0)))) r g q (rdL 1 la0) (rdF 1 la0 fa0) (rowA cmdT 24 (upd ca0 18 (rdV 1 la0)))) := by
    have h := HCa.out.cell 18 (.int .i64 (unz (numR la0)))
    have e : (rowA cmdT 24 ca0).setIfInBounds 18 (.int .i64 (unz (numR la0))) = rowA cmdT 24 (upd ca0 18 (rdV 1 la0)) := set_row (s := (1, 18)) rfl (by decide) ca0 (rdV 1 la0)
    rw [e] at h
    exact h
  have HRb : Hid (reads [] (rowA cmdT 24 (upd ca0 18 (rdV 1 la0))) (rdL 1 la0) (rdF 1 la0 fa0) = R) := rstep (s := (1, 18)) rfl (by decide) HR.out
  have H0b : Hid (upd ca0 18 (rdV 1 la0) 0 = ((7 : Nat) : Int)) := H0.out
  have HLb : Hid ((rdL 1 la0).length ≤ 500) := Nat.le_trans (rdL_len HY.out) HL.out
  have HYb : Hid (Bytes (rdL 1 la0)) := rdL_bytes HY.out
  have c0 : (wa1.setCell ⟨q, 18, none⟩ (.int .i64 (unz (numR la0)))).cell? ⟨q, 0, none⟩ = some (.int .u8 ((7 : Nat) : Int)) := HCb.out.blk.get 0 (by rw [rowA_get (by decide), H0b.out]; rfl)
  clear HC HCa HR H0 HL HY he
  go_wp2_with fail
  try clear c0
  clear cq fq
  generalize wa1.setCell ⟨q, 18, none⟩ (.int .i64 (unz (numR la0))) = wb1 at HCb ⊢
  generalize rdL 1 la0 = la1 at HCb HRb HLb HYb
  generalize rdF 1 la0 fa0 = fa1 at HCb HRb
  generalize upd ca0 18 (rdV 1 la0) = ca1 at HCb HRb H0b
  have HC := Lib.hid HCb.out
  have HR := Lib.hid HRb.out
  have H0 := Lib.hid H0b.out
  have HL := Lib.hid HLb.out
  have HY := Lib.hid HYb.out
  clear HCb HRb H0b HLb HYb
  obtain rfl : (rowA cmdT 24 ca1, la1, fa1) = R := HR.out
  with_reducible refine (reyeDone g la1 fa1 _ HC.out.eye).mono ?_
  rintro e wx ⟨rfl, rfl⟩
  have hd : doneB la1 fa1 = true := HD.out
  rw [hd]
  clear hd
  go_wp2_with (first | (refine wpList_load_blk rfl 32 _ rfl q rfl 32 _ _ HC.out.blk Try.underlying32 rfl (by rw [rowA_size]; kernel_rfl) ?_) | (refine wpList_store_part rfl 32 _ _ rfl r 0 _ rfl rfl 32 _ HC.out.res (by rw [rowA_size, rowA_size]; decide) (by rw [rowA_size]; kernel_rfl) rowA_one ?_; intro w9 hb9 hf9; rw [rowA_whole] at hb9; have H9 := Lib.hid (HC.out.put hb9 hf9); clear hb9 hf9))
  refine result_blk2 (k := 2) (j := 3) rfl rfl rfl H9.out.res Try.underlying32 rfl (by rw [rowA_size]; kernel_rfl) rfl ?_
  exact ⟨rfl, H9.out.below⟩

set_option maxHeartbeats 16000000 in
theorem ref_read_7_end (l : List Nat) (w : World) (R : Array Value × List Nat × Bool) (hl : Bytes l) (hl5 : l.length ≤ 500) (hkk : byteR l = 7) (hRR : reads (slotsOf 7) (rowA cmdT 24 fun i => if i = 0 then (((7 : Nat) : Int)) else 0) (byteL l) (byteF l false) = R) (hD : doneB R.2.1 R.2.2 = false) :
    Calls Try.prog 8 #[.string (bs l)] w fun e w' => e = .returned (.tuple #[.agg (rowA cmdT 24 fun _ => 0), .int .i64 140]) ∧ Below w.heap.size w w' := by
  have HR := Lib.hid hRR
  have HD := Lib.hid hD
  clear hRR hD
  have HBY := Lib.hid (And.intro hl hl5)
  clear hl hl5
  obtain ⟨r, hr⟩ : ∃ r, w.heap.size = r := ⟨_, rfl⟩
  rw [hr]
  have HR_ := Lib.hid hr
  clear hr
  go_enter Try.func8, Try.ntmps8
  go_upto_region 2 with (fail)
  rw [zero_cmd]
  try rw [HR_.out]
  have a0 := (Blk.new w 32 (rowA cmdT 24 fun _ => 0)).alloc (.cells #[.string (bs l), .bool false] 66)
  have a1 : Blk ((w.alloc (.cells (rowA cmdT 24 fun _ => 0) 32)).alloc (.cells #[.string (bs l), .bool false] 66)) (w.heap.size + 1) 66 #[.string (bs l), .bool false] := Blk.new_at (by simp)
  have ab : Below w.heap.size w ((w.alloc (.cells (rowA cmdT 24 fun _ => 0) 32)).alloc (.cells #[.string (bs l), .bool false] 66)) := by go_grown
  have az : ((w.alloc (.cells (rowA cmdT 24 fun _ => 0) 32)).alloc (.cells #[.string (bs l), .bool false] 66)).heap.size = w.heap.size + 2 := by simp
  rw [HR_.out] at a0 a1 ab az
  generalize (w.alloc (.cells (rowA cmdT 24 fun _ => 0) 32)).alloc (.cells #[.string (bs l), .bool false] 66) = w1 at a0 a1 ab az ⊢
  have he : REyeAt w1 (r + 1) l false := ⟨a1, HBY.out.1, fun e => by cases e⟩
  have HA := Lib.hid (And.intro a0 (And.intro he (And.intro ab az)))
  clear a0 a1 ab az he
  go_wp2_with fail
  with_reducible refine (reyeByte (r + 1) l false w1 HA.out.2.1).mono ?_
  rintro e w3 ⟨rfl, he, hf⟩
  have H3 := Lib.hid (And.intro he hf)
  clear he hf
  obtain ⟨k, hk⟩ : ∃ k, byteR l = k := ⟨_, rfl⟩
  rw [hk] at hkk ⊢
  have HK := Lib.hid (And.intro hkk hk)
  clear hkk hk
  go_upto_region 3 with (first | (refine wpList_store_part rfl 32 _ _ rfl _ 0 _ rfl rfl 32 _ (Blk.new_at (by simp)) (by simp) (by kernel_rfl) (by simp [Value.oneCell']) ?_; intro w4 hb4 hf4; rw [zero_cmd, kind_cmd, rowA_whole] at hb4; rw [zero_cmd] at hf4; rw [kind_cmd (k : Int)]; have H4 := Lib.hid (And.intro hb4 hf4); clear hb4 hf4))
  obtain ⟨q, hq⟩ : ∃ q, w3.heap.size = q := ⟨_, rfl⟩
  obtain ⟨g, hg⟩ : ∃ g, r + 1 = g := ⟨_, rfl⟩
  rw [hq] at H4 ⊢
  rw [hg] at H3 HA ⊢
  have HC : Hid (RRC 32 (rowA cmdT 24 fun _ => 0) w w4 r g q (byteL l) (byteF l false) (rowA cmdT 24 fun i => if i = 0 then (k : Int) else 0)) := by
    have z1 := HA.out.2.2.2
    have z3 := H3.out.2.size
    have b3 : Below r w w3 := HA.out.2.2.1.trans (H3.out.2.below (by omega) (fun j hj e => by omega))
    exact ⟨((HA.out.1.fr H3.out.2 (by omega)).alloc _).fr H4.out.2 (by omega), (H3.out.1.below ((Below.refl _ _).alloc (Nat.le_refl _) _)).fr H4.out.2 (by omega), H4.out.1, (b3.alloc (by omega) _).trans (H4.out.2.below (by rw [World.size_alloc]; omega) (fun j hj e => by omega)), by omega, by omega, by omega, by omega, by omega⟩
  have HL : Hid ((byteL l).length ≤ 500) := Nat.le_trans (by cases l <;> simp [byteL]) HBY.out.2
  clear hq hg H4 H3 HA
  have c0 : w4.cell? ⟨q, 0, none⟩ = some (.int .u8 (k : Int)) := HC.out.blk.get 0 (rowA_get (by decide))
  obtain rfl : k = 7 := HK.out.1
  have HY : Hid (Bytes (byteL l)) := byteL_bytes HBY.out.1
  have H0 : Hid ((fun i => if i = 0 then (((7 : Nat) : Int)) else 0) 0 = ((7 : Nat) : Int)) := rfl
  generalize byteL l = la0 at HC HR HL HY
  generalize byteF l false = fa0 at HC HR
  generalize (fun i => if i = 0 then (((7 : Nat) : Int)) else 0) = ca0 at HC HR H0 ⊢
  clear HBY HK HR_
  go_wp2_with fail
  try clear c0
  with_reducible refine (reyeInt g la0 fa0 _ HC.out.eye (Nat.le_trans HL.out (by decide))).mono ?_
  rintro e wa1 ⟨rfl, he⟩
  have HCa := Lib.hid (HC.out.look he)
  obtain ⟨u1, cq⟩ : ∃ u, wa1.cell? ⟨q, 18, none⟩ = some u := ⟨_, HCa.out.blk.get 18 (rowA_get (by decide))⟩
  have fq : wa1.frozen? ⟨q, 18, none⟩ = false := Blk.frozen HCa.out.blk 18
  have HCb : Hid (RRC 32 (rowA cmdT 24 fun _ => 0) w (wa1.setCell ⟨q, 18, none⟩ (.int .i64 (unz (numR la0)))) r g q (rdL 1 la0) (rdF 1 la0 fa0) (rowA cmdT 24 (upd ca0 18 (rdV 1 la0)))) := by
    have h := HCa.out.cell 18 (.int .i64 (unz (numR la0)))
    have e : (rowA cmdT 24 ca0).setIfInBounds 18 (.int .i64 (unz (numR la0))) = rowA cmdT 24 (upd ca0 18 (rdV 1 la0)) := set_row (s := (1, 18)) rfl (by decide) ca0 (rdV 1 la0)
    rw [e] at h
    exact h
  have HRb : Hid (reads [] (rowA cmdT 24 (upd ca0 18 (rdV 1 la0))) (rdL 1 la0) (rdF 1 la0 fa0) = R) := rstep (s := (1, 18)) rfl (by decide) HR.out
  have H0b : Hid (upd ca0 18 (rdV 1 la0) 0 = ((7 : Nat) : Int)) := H0.out
  have HLb : Hid ((rdL 1 la0).length ≤ 500) := Nat.le_trans (rdL_len HY.out) HL.out
  have HYb : Hid (Bytes (rdL 1 la0)) := rdL_bytes HY.out
  have c0 : (wa1.setCell ⟨q, 18, none⟩ (.int .i64 (unz (numR la0)))).cell? ⟨q, 0, none⟩ = some (.int .u8 ((7 : Nat) : Int)) := HCb.out.blk.get 0 (by rw [rowA_get (by decide), H0b.out]; rfl)
  clear HC HCa HR H0 HL HY he
  go_wp2_with fail
  try clear c0
  clear cq fq
  generalize wa1.setCell ⟨q, 18, none⟩ (.int .i64 (unz (numR la0))) = wb1 at HCb ⊢
  generalize rdL 1 la0 = la1 at HCb HRb HLb HYb
  generalize rdF 1 la0 fa0 = fa1 at HCb HRb
  generalize upd ca0 18 (rdV 1 la0) = ca1 at HCb HRb H0b
  have HC := Lib.hid HCb.out
  have HR := Lib.hid HRb.out
  have H0 := Lib.hid H0b.out
  have HL := Lib.hid HLb.out
  have HY := Lib.hid HYb.out
  clear HCb HRb H0b HLb HYb
  obtain rfl : (rowA cmdT 24 ca1, la1, fa1) = R := HR.out
  with_reducible refine (reyeDone g la1 fa1 _ HC.out.eye).mono ?_
  rintro e wx ⟨rfl, rfl⟩
  have hd : doneB la1 fa1 = false := HD.out
  rw [hd]
  clear hd
  go_wp2_with (first | (refine wpList_store_part rfl 32 _ _ rfl r 0 _ rfl rfl 32 _ HC.out.res (by simp [rowA_size]) (by first | (rw [rowA_size]; kernel_rfl) | kernel_rfl) (by first | exact rowA_one | simp [Value.oneCell']) ?_; intro w9 hb9 hf9; rw [zero_cmd, rowA_whole] at hb9; have H9 := Lib.hid (HC.out.put hb9 hf9); clear hb9 hf9))
  refine result_blk2 (k := 2) (j := 3) rfl rfl rfl H9.out.res Try.underlying32 rfl (by rw [rowA_size]; kernel_rfl) rfl ?_
  exact ⟨rfl, H9.out.below⟩

end Go.Proofs.Ytbageagobalgbaa
