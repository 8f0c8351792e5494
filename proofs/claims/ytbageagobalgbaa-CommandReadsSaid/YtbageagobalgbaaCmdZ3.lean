/-
  The document's ReadCommand (cases).
-/
import Derived.Test.YtbageagobalgbaaProg
import Derived.Test.YtbageagobalgbaaCmdZ0
namespace Go.Proofs.Ytbageagobalgbaa
set_option linter.unusedVariables false
set_option linter.unusedSimpArgs false
set_option maxRecDepth 100000
open Go.RowKit

set_option maxHeartbeats 16000000 in
theorem ref_read_3_ok (l : List Nat) (w : World) (R : Array Value × List Nat × Bool) (hl : Bytes l) (hl5 : l.length ≤ 500) (hkk : byteR l = 3) (hRR : reads (slotsOf 3) (rowA cmdT 24 fun i => if i = 0 then (((3 : Nat) : Int)) else 0) (byteL l) (byteF l false) = R) (hD : doneB R.2.1 R.2.2 = true) :
    Calls Try.prog 8 #[.string (bs l)] w fun e w' => e = .returned (.tuple #[.agg R.1, .int .i64 0]) ∧ Below w.heap.size w w' := by
  have HR := Lib.hid hRR
  have HD := Lib.hid hD
  clear hRR hD
  have HBY := Lib.hid (And.intro hl hl5)
  clear hl hl5
  obtain ⟨r, hr⟩ : ∃ r, w.heap.size = r := ⟨_, rfl⟩
  rw [hr]
  have HR_ := Lib.hid hr
  clear hr
  go_enter Try.func8, Try.ntmps8
  go_upto_region 2 with (fail)
  rw [zero_cmd]
  try rw [HR_.out]
  have a0 := (Blk.new w 32 (rowA cmdT 24 fun _ => 0)).alloc (.cells #[.string (bs l), .bool false] 66)
  have a1 : Blk ((w.alloc (.cells (rowA cmdT 24 fun _ => 0) 32)).alloc (.cells #[.string (bs l), .bool false] 66)) (w.heap.size + 1) 66 #[.string (bs l), .bool false] := Blk.new_at (by simp)
  have ab : Below w.heap.size w ((w.alloc (.cells (rowA cmdT 24 fun _ => 0) 32)).alloc (.cells #[.string (bs l), .bool false] 66)) := by go_grown
  have az : ((w.alloc (.cells (rowA cmdT 24 fun _ => 0) 32)).alloc (.cells #[.string (bs l), .bool false] 66)).heap.size = w.heap.size + 2 := by simp
  rw [HR_.out] at a0 a1 ab az
  generalize (w.alloc (.cells (rowA cmdT 24 fun _ => 0) 32)).alloc (.cells #[.string (bs l), .bool false] 66) = w1 at a0 a1 ab az ⊢
  have he : REyeAt w1 (r + 1) l false := ⟨a1, HBY.out.1, fun e => by cases e⟩
  have HA := Lib.hid (And.intro a0 (And.intro he (And.intro ab az)))
  clear a0 a1 ab az he
  go_wp2_with fail
  with_reducible refine (reyeByte (r + 1) l false w1 HA.out.2.1).mono ?_
  rintro e w3 ⟨rfl, he, hf⟩
  have H3 := Lib.hid (And.intro he hf)
  clear he hf
  obtain ⟨k, hk⟩ : ∃ k, byteR l = k := ⟨_, rfl⟩
  rw [hk] at hkk ⊢
  have HK := Lib.hid (And.intro hkk hk)
  clear hkk hk
  go_upto_region 3 with (first | (refine wpList_store_part rfl 32 _ _ rfl _ 0 _ rfl rfl 32 _ (Blk.new_at (by simp)) (by simp) (by kernel_rfl) (by simp [Value.oneCell']) ?_; intro w4 hb4 hf4; rw [zero_cmd, kind_cmd, rowA_whole] at hb4; rw [zero_cmd] at hf4; rw [kind_cmd (k : Int)]; have H4 := Lib.hid (And.intro hb4 hf4); clear hb4 hf4))
  obtain ⟨q, hq⟩ : ∃ q, w3.heap.size = q := ⟨_, rfl⟩
  obtain ⟨g, hg⟩ : ∃ g, r + 1 = g := ⟨_, rfl⟩
  rw [hq] at H4 ⊢
  rw [hg] at H3 HA ⊢
  have HC : Hid (RRC 32 (rowA cmdT 24 fun _ => 0) w w4 r g q (byteL l) (byteF l false) (rowA cmdT 24 fun i => if i = 0 then (k : Int) else 0)) := by
    have z1 := HA.out.2.2.2
    have z3 := H3.out.2.size
    have b3 : Below r w w3 := HA.out.2.2.1.trans (H3.out.2.below (by omega) (fun j hj e => by omega))
    exact ⟨((HA.out.1.fr H3.out.2 (by omega)).alloc _).fr H4.out.2 (by omega), (H3.out.1.below ((Below.refl _ _).alloc (Nat.le_refl _) _)).fr H4.out.2 (by omega), H4.out.1, (b3.alloc (by omega) _).trans (H4.out.2.below (by rw [World.size_alloc]; omega) (fun j hj e => by omega)), by omega, by omega, by omega, by omega, by omega⟩
  have HL : Hid ((byteL l).length ≤ 500) := Nat.le_trans (by cases l <;> simp [byteL]) HBY.out.2
  clear hq hg H4 H3 HA
  have c0 : w4.cell? ⟨q, 0, none⟩ = some (.int .u8 (k : Int)) := HC.out.blk.get 0 (rowA_get (by decide))
  obtain rfl : k = 3 := HK.out.1
  have HY : Hid (Bytes (byteL l)) := byteL_bytes HBY.out.1
  have H0 : Hid ((fun i => if i = 0 then (((3 : Nat) : Int)) else 0) 0 = ((3 : Nat) : Int)) := rfl
  generalize byteL l = la0 at HC HR HL HY
  generalize byteF l false = fa0 at HC HR
  generalize (fun i => if i = 0 then (((3 : Nat) : Int)) else 0) = ca0 at HC HR H0 ⊢
  clear HBY HK HR_
  go_wp2_with fail
  try clear c0
  with_reducible refine (reyeInt g la0 fa0 _ HC.out.eye (Nat.le_trans HL.out (by decide))).mono ?_
  rintro e wa1 ⟨rfl, he⟩
  have HCa := Lib.hid (HC.out.look he)
  obtain ⟨u1, cq⟩ : ∃ u, wa1.cell? ⟨q, 4, none⟩ = some u := ⟨_, HCa.out.blk.get 4 (rowA_get (by decide))⟩
  have fq : wa1.frozen? ⟨q, 4, none⟩ = false := Blk.frozen HCa.out.blk 4
  have HCb : Hid (RRC 32 (rowA cmdT 24 fun _ => 0) w (wa1.setCell ⟨q, 4, none⟩ (.int .i64 (unz (numR la0)))) r g q (rdL 1 la0) (rdF 1 la0 fa0) (rowA cmdT 24 (upd ca0 4 (rdV 1 la0)))) := by
    have h := HCa.out.cell 4 (.int .i64 (unz (numR la0)))
    have e : (rowA cmdT 24 ca0).setIfInBounds 4 (.int .i64 (unz (numR la0))) = rowA cmdT 24 (upd ca0 4 (rdV 1 la0)) := set_row (s := (1, 4)) rfl (by decide) ca0 (rdV 1 la0)
    rw [e] at h
    exact h
  have HRb : Hid (reads [(0, 7), (0, 8), (0, 9), (0, 10), (0, 11), (0, 12), (0, 13), (0, 14), (0, 15)] (rowA cmdT 24 (upd ca0 4 (rdV 1 la0))) (rdL 1 la0) (rdF 1 la0 fa0) = R) := rstep (s := (1, 4)) rfl (by decide) HR.out
  have H0b : Hid (upd ca0 4 (rdV 1 la0) 0 = ((3 : Nat) : Int)) := H0.out
  have HLb : Hid ((rdL 1 la0).length ≤ 500) := Nat.le_trans (rdL_len HY.out) HL.out
  have HYb : Hid (Bytes (rdL 1 la0)) := rdL_bytes HY.out
  have c0 : (wa1.setCell ⟨q, 4, none⟩ (.int .i64 (unz (numR la0)))).cell? ⟨q, 0, none⟩ = some (.int .u8 ((3 : Nat) : Int)) := HCb.out.blk.get 0 (by rw [rowA_get (by decide), H0b.out]; rfl)
  clear HC HCa HR H0 HL HY he
  go_wp2_with fail
  try clear c0
  clear cq fq
  generalize wa1.setCell ⟨q, 4, none⟩ (.int .i64 (unz (numR la0))) = wb1 at HCb ⊢
  generalize rdL 1 la0 = la1 at HCb HRb HLb HYb
  generalize rdF 1 la0 fa0 = fa1 at HCb HRb
  generalize upd ca0 4 (rdV 1 la0) = ca1 at HCb HRb H0b
  have HC := Lib.hid HCb.out
  have HR := Lib.hid HRb.out
  have H0 := Lib.hid H0b.out
  have HL := Lib.hid HLb.out
  have HY := Lib.hid HYb.out
  clear HCb HRb H0b HLb HYb
  with_reducible refine (ref_getcurve g la1 fa1 _ HC.out.eye HL.out).mono ?_
  rintro e wa2 ⟨rfl, he⟩
  have HCa := Lib.hid (HC.out.look he)
  have HRb : Hid (reads [(0, 10), (0, 11), (0, 12), (0, 13), (0, 14), (0, 15)] (rowA cmdT 24 (upd (upd (upd ca1 7 (rdV 0 la1)) 8 (rdV 0 (rdL 0 la1))) 9 (rdV 0 (rdL 0 (rdL 0 la1))))) (rdL 0 (rdL 0 (rdL 0 la1))) (rdF 0 (rdL 0 (rdL 0 la1)) (rdF 0 (rdL 0 la1) (rdF 0 la1 fa1))) = R) := rstep (s := (0, 9)) rfl (by decide) (rstep (s := (0, 8)) rfl (by decide) (rstep (s := (0, 7)) rfl (by decide) HR.out))
  have H0b : Hid ((upd (upd (upd ca1 7 (rdV 0 la1)) 8 (rdV 0 (rdL 0 la1))) 9 (rdV 0 (rdL 0 (rdL 0 la1)))) 0 = ((3 : Nat) : Int)) := H0.out
  have HLb : Hid ((rdL 0 (rdL 0 (rdL 0 la1))).length ≤ 500) := Nat.le_trans (rdL_len (rdL_bytes (rdL_bytes HY.out))) (Nat.le_trans (rdL_len (rdL_bytes HY.out)) (Nat.le_trans (rdL_len HY.out) HL.out))
  have HYb : Hid (Bytes (rdL 0 (rdL 0 (rdL 0 la1)))) := rdL_bytes (rdL_bytes (rdL_bytes HY.out))
  clear HC HR H0 HL HY he
  go_wp2_with (first | (refine wpList_store_part rfl 26 _ _ rfl q 7 _ rfl rfl 32 _ HCa.out.blk (by rw [rowA_size]; simp) (by kernel_rfl) (by simp [Value.oneCell']) ?_; intro wb2 hbN hfN; rw [curve_row rfl rfl rfl] at hbN; have HCb : Hid (RRC 32 (rowA cmdT 24 fun _ => 0) w wb2 r g q (rdL 0 (rdL 0 (rdL 0 la1))) (rdF 0 (rdL 0 (rdL 0 la1)) (rdF 0 (rdL 0 la1) (rdF 0 la1 fa1))) (rowA cmdT 24 (upd (upd (upd ca1 7 (rdV 0 la1)) 8 (rdV 0 (rdL 0 la1))) 9 (rdV 0 (rdL 0 (rdL 0 la1)))))) := HCa.out.over hbN hfN; have c0 : wb2.cell? ⟨q, 0, none⟩ = some (.int .u8 ((3 : Nat) : Int)) := HCb.out.blk.get 0 (by rw [rowA_get (by decide), H0b.out]; rfl); clear hbN hfN))
  try clear c0
  clear HCa
  generalize (rdL 0 (rdL 0 (rdL 0 la1))) = la2 at HCb HRb HLb HYb
  generalize (rdF 0 (rdL 0 (rdL 0 la1)) (rdF 0 (rdL 0 la1) (rdF 0 la1 fa1))) = fa2 at HCb HRb
  generalize (upd (upd (upd ca1 7 (rdV 0 la1)) 8 (rdV 0 (rdL 0 la1))) 9 (rdV 0 (rdL 0 (rdL 0 la1)))) = ca2 at HCb HRb H0b
  have HC := Lib.hid HCb.out
  have HR := Lib.hid HRb.out
  have H0 := Lib.hid H0b.out
  have HL := Lib.hid HLb.out
  have HY := Lib.hid HYb.out
  clear HCb HRb H0b HLb HYb
  with_reducible refine (ref_getcurve g la2 fa2 _ HC.out.eye HL.out).mono ?_
  rintro e wa3 ⟨rfl, he⟩
  have HCa := Lib.hid (HC.out.look he)
  have HRb : Hid (reads [(0, 13), (0, 14), (0, 15)] (rowA cmdT 24 (upd (upd (upd ca2 10 (rdV 0 la2)) 11 (rdV 0 (rdL 0 la2))) 12 (rdV 0 (rdL 0 (rdL 0 la2))))) (rdL 0 (rdL 0 (rdL 0 la2))) (rdF 0 (rdL 0 (rdL 0 la2)) (rdF 0 (rdL 0 la2) (rdF 0 la2 fa2))) = R) := rstep (s := (0, 12)) rfl (by decide) (rstep (s := (0, 11)) rfl (by decide) (rstep (s := (0, 10)) rfl (by decide) HR.out))
  have H0b : Hid ((upd (upd (upd ca2 10 (rdV 0 la2)) 11 (rdV 0 (rdL 0 la2))) 12 (rdV 0 (rdL 0 (rdL 0 la2)))) 0 = ((3 : Nat) : Int)) := H0.out
  have HLb : Hid ((rdL 0 (rdL 0 (rdL 0 la2))).length ≤ 500) := Nat.le_trans (rdL_len (rdL_bytes (rdL_bytes HY.out))) (Nat.le_trans (rdL_len (rdL_bytes HY.out)) (Nat.le_trans (rdL_len HY.out) HL.out))
  have HYb : Hid (Bytes (rdL 0 (rdL 0 (rdL 0 la2)))) := rdL_bytes (rdL_bytes (rdL_bytes HY.out))
  clear HC HR H0 HL HY he
  go_wp2_with (first | (refine wpList_store_part rfl 26 _ _ rfl q 10 _ rfl rfl 32 _ HCa.out.blk (by rw [rowA_size]; simp) (by kernel_rfl) (by simp [Value.oneCell']) ?_; intro wb3 hbN hfN; rw [curve_row rfl rfl rfl] at hbN; have HCb : Hid (RRC 32 (rowA cmdT 24 fun _ => 0) w wb3 r g q (rdL 0 (rdL 0 (rdL 0 la2))) (rdF 0 (rdL 0 (rdL 0 la2)) (rdF 0 (rdL 0 la2) (rdF 0 la2 fa2))) (rowA cmdT 24 (upd (upd (upd ca2 10 (rdV 0 la2)) 11 (rdV 0 (rdL 0 la2))) 12 (rdV 0 (rdL 0 (rdL 0 la2)))))) := HCa.out.over hbN hfN; have c0 : wb3.cell? ⟨q, 0, none⟩ = some (.int .u8 ((3 : Nat) : Int)) := HCb.out.blk.get 0 (by rw [rowA_get (by decide), H0b.out]; rfl); clear hbN hfN))
  try clear c0
  clear HCa
  generalize (rdL 0 (rdL 0 (rdL 0 la2))) = la3 at HCb HRb HLb HYb
  generalize (rdF 0 (rdL 0 (rdL 0 la2)) (rdF 0 (rdL 0 la2) (rdF 0 la2 fa2))) = fa3 at HCb HRb
  generalize (upd (upd (upd ca2 10 (rdV 0 la2)) 11 (rdV 0 (rdL 0 la2))) 12 (rdV 0 (rdL 0 (rdL 0 la2)))) = ca3 at HCb HRb H0b
  have HC := Lib.hid HCb.out
  have HR := Lib.hid HRb.out
  have H0 := Lib.hid H0b.out
  have HL := Lib.hid HLb.out
  have HY := Lib.hid HYb.out
  clear HCb HRb H0b HLb HYb
  with_reducible refine (ref_getcurve g la3 fa3 _ HC.out.eye HL.out).mono ?_
  rintro e wa4 ⟨rfl, he⟩
  have HCa := Lib.hid (HC.out.look he)
  have HRb : Hid (reads [] (rowA cmdT 24 (upd (upd (upd ca3 13 (rdV 0 la3)) 14 (rdV 0 (rdL 0 la3))) 15 (rdV 0 (rdL 0 (rdL 0 la3))))) (rdL 0 (rdL 0 (rdL 0 la3))) (rdF 0 (rdL 0 (rdL 0 la3)) (rdF 0 (rdL 0 la3) (rdF 0 la3 fa3))) = R) := rstep (s := (0, 15)) rfl (by decide) (rstep (s := (0, 14)) rfl (by decide) (rstep (s := (0, 13)) rfl (by decide) HR.out))
  have H0b : Hid ((upd (upd (upd ca3 13 (rdV 0 la3)) 14 (rdV 0 (rdL 0 la3))) 15 (rdV 0 (rdL 0 (rdL 0 la3)))) 0 = ((3 : Nat) : Int)) := H0.out
  have HLb : Hid ((rdL 0 (rdL 0 (rdL 0 la3))).length ≤ 500) := Nat.le_trans (rdL_len (rdL_bytes (rdL_bytes HY.out))) (Nat.le_trans (rdL_len (rdL_bytes HY.out)) (Nat.le_trans (rdL_len HY.out) HL.out))
  have HYb : Hid (Bytes (rdL 0 (rdL 0 (rdL 0 la3)))) := rdL_bytes (rdL_bytes (rdL_bytes HY.out))
  clear HC HR H0 HL HY he
  go_wp2_with (first | (refine wpList_store_part rfl 26 _ _ rfl q 13 _ rfl rfl 32 _ HCa.out.blk (by rw [rowA_size]; simp) (by kernel_rfl) (by simp [Value.oneCell']) ?_; intro wb4 hbN hfN; rw [curve_row rfl rfl rfl] at hbN; have HCb : Hid (RRC 32 (rowA cmdT 24 fun _ => 0) w wb4 r g q (rdL 0 (rdL 0 (rdL 0 la3))) (rdF 0 (rdL 0 (rdL 0 la3)) (rdF 0 (rdL 0 la3) (rdF 0 la3 fa3))) (rowA cmdT 24 (upd (upd (upd ca3 13 (rdV 0 la3)) 14 (rdV 0 (rdL 0 la3))) 15 (rdV 0 (rdL 0 (rdL 0 la3)))))) := HCa.out.over hbN hfN; have c0 : wb4.cell? ⟨q, 0, none⟩ = some (.int .u8 ((3 : Nat) : Int)) := HCb.out.blk.get 0 (by rw [rowA_get (by decide), H0b.out]; rfl); clear hbN hfN))
  try clear c0
  clear HCa
  generalize (rdL 0 (rdL 0 (rdL 0 la3))) = la4 at HCb HRb HLb HYb
  generalize (rdF 0 (rdL 0 (rdL 0 la3)) (rdF 0 (rdL 0 la3) (rdF 0 la3 fa3))) = fa4 at HCb HRb
  generalize (upd (upd (upd ca3 13 (rdV 0 la3)) 14 (rdV 0 (rdL 0 la3))) 15 (rdV 0 (rdL 0 (rdL 0 la3)))) = ca4 at HCb HRb H0b
  have HC := Lib.hid HCb.out
  have HR := Lib.hid HRb.out
  have H0 := Lib.hid H0b.out
  have HL := Lib.hid HLb.out
  have HY := Lib.hid HYb.out
  clear HCb HRb H0b HLb HYb
  obtain rfl : (rowA cmdT 24 ca4, la4, fa4) = R := HR.out
  with_reducible refine (reyeDone g la4 fa4 _ HC.out.eye).mono ?_
  rintro e wx ⟨rfl, rfl⟩
  have hd : doneB la4 fa4 = true := HD.out
  rw [hd]
  clear hd
  go_wp2_with (first | (refine wpList_load_blk rfl 32 _ rfl q rfl 32 _ _ HC.out.blk Try.underlying32 rfl (by rw [rowA_size]; kernel_rfl) ?_) | (refine wpList_store_part rfl 32 _ _ rfl r 0 _ rfl rfl 32 _ HC.out.res (by rw [rowA_size, rowA_size]; decide) (by rw [rowA_size]; kernel_rfl) rowA_one ?_; intro w9 hb9 hf9; rw [rowA_whole] at hb9; have H9 := Lib.hid (HC.out.put hb9 hf9); clear hb9 hf9))
  refine result_blk2 (k := 2) (j := 3) rfl rfl rfl H9.out.res Try.underlying32 rfl (by rw [rowA_size]; kernel_rfl) rfl ?_
  exact ⟨rfl, H9.out.below⟩

set_option maxHeartbeats 16000000 in
theorem ref_read_3_end (l : List Nat) (w : World) (R : Array Value × List Nat × Bool) (hl : Bytes l) (hl5 : l.length ≤ 500) (hkk : byteR l = 3) (hRR : reads (slotsOf 3) (rowA cmdT 24 fun i => if i = 0 then (((3 : Nat) : Int)) else 0) (byteL l) (byteF l false) = R) (hD : doneB R.2.1 R.2.2 = false) :
    Calls Try.prog 8 #[.string (bs l)] w fun e w' => e = .returned (.tuple #[.agg (rowA cmdT 24 fun _ => 0), .int .i64 140]) ∧ Below w.heap.size w w' := by
  have HR := Lib.hid hRR
  have HD := Lib.hid hD
  clear hRR hD
  have HBY := Lib.hid (And.intro hl hl5)
  clear hl hl5
  obtain ⟨r, hr⟩ : ∃ r, w.heap.size = r := ⟨_, rfl⟩
  rw [hr]
  have HR_ := Lib.hid hr
  clear hr
  go_enter Try.func8, Try.ntmps8
  go_upto_region 2 with (fail)
  rw [zero_cmd]
  try rw [HR_.out]
  have a0 := (Blk.new w 32 (rowA cmdT 24 fun _ => 0)).alloc (.cells #[.string (bs l), .bool false] 66)
  have a1 : Blk ((w.alloc (.cells (rowA cmdT 24 fun _ => 0) 32)).alloc (.cells #[.string (bs l), .bool false] 66)) (w.heap.size + 1) 66 #[.string (bs l), .bool false] := Blk.new_at (by simp)
  have ab : Below w.heap.size w ((w.alloc (.cells (rowA cmdT 24 fun _ => 0) 32)).alloc (.cells #[.string (bs l), .bool false] 66)) := by go_grown
  have az : ((w.alloc (.cells (rowA cmdT 24 fun _ => 0) 32)).alloc (.cells #[.string (bs l), .bool false] 66)).heap.size = w.heap.size + 2 := by simp
  rw [HR_.out] at a0 a1 ab az
  generalize (w.alloc (.cells (rowA cmdT 24 fun _ => 0) 32)).alloc (.cells #[.string (bs l), .bool false] 66) = w1 at a0 a1 ab az ⊢
  have he : REyeAt w1 (r + 1) l false := ⟨a1, HBY.out.1, fun e => by cases e⟩
  have HA := Lib.hid (And.intro a0 (And.intro he (And.intro ab az)))
  clear a0 a1 ab az he
  go_wp2_with fail
  with_reducible refine (reyeByte (r + 1) l false w1 HA.out.2.1).mono ?_
  rintro e w3 ⟨rfl, he, hf⟩
  have H3 := Lib.hid (And.intro he hf)
  clear he hf
  obtain ⟨k, hk⟩ : ∃ k, byteR l = k := ⟨_, rfl⟩
  rw [hk] at hkk ⊢
  have HK := Lib.hid (And.intro hkk hk)
  clear hkk hk
  go_upto_region 3 with (first | (refine wpList_store_part rfl 32 _ _ rfl _ 0 _ rfl rfl 32 _ (Blk.new_at (by simp)) (by simp) (by kernel_rfl) (by simp [Value.oneCell']) ?_; intro w4 hb4 hf4; rw [zero_cmd, kind_cmd, rowA_whole] at hb4; rw [zero_cmd] at hf4; rw [kind_cmd (k : Int)]; have H4 := Lib.hid (And.intro hb4 hf4); clear hb4 hf4))
  obtain ⟨q, hq⟩ : ∃ q, w3.heap.size = q := ⟨_, rfl⟩
  obtain ⟨g, hg⟩ : ∃ g, r + 1 = g := ⟨_, rfl⟩
  rw [hq] at H4 ⊢
  rw [hg] at H3 HA ⊢
  have HC : Hid (RRC 32 (rowA cmdT 24 fun _ => 0) w w4 r g q (byteL l) (byteF l false) (rowA cmdT 24 fun i => if i = 0 then (k : Int) else 0)) := by
    have z1 := HA.out.2.2.2
    have z3 := H3.out.2.size
    have b3 : Below r w w3 := HA.out.2.2.1.trans (H3.out.2.below (by omega) (fun j hj e => by omega))
    exact ⟨((HA.out.1.fr H3.out.2 (by omega)).alloc _).fr H4.out.2 (by omega), (H3.out.1.below ((Below.refl _ _).alloc (Nat.le_refl _) _)).fr H4.out.2 (by omega), H4.out.1, (b3.alloc (by omega) _).trans (H4.out.2.below (by rw [World.size_alloc]; omega) (fun j hj e => by omega)), by omega, by omega, by omega, by omega, by omega⟩
  have HL : Hid ((byteL l).length ≤ 500) := Nat.le_trans (by cases l <;> simp [byteL]) HBY.out.2
  clear hq hg H4 H3 HA
  have c0 : w4.cell? ⟨q, 0, none⟩ = some (.int .u8 (k : Int)) := HC.out.blk.get 0 (rowA_get (by decide))
  obtain rfl : k = 3 := HK.out.1
  have HY : Hid (Bytes (byteL l)) := byteL_bytes HBY.out.1
  have H0 : Hid ((fun i => if i = 0 then (((3 : Nat) : Int)) else 0) 0 = ((3 : Nat) : Int)) := rfl
  generalize byteL l = la0 at HC HR HL HY
  generalize byteF l false = fa0 at HC HR
  generalize (fun i => if i = 0 then (((3 : Nat) : Int)) else 0) = ca0 at HC HR H0 ⊢
  clear HBY HK HR_
  go_wp2_with fail
  try clear c0
  with_reducible refine (reyeInt g la0 fa0 _ HC.out.eye (Nat.le_trans HL.out (by decide))).mono ?_
  rintro e wa1 ⟨rfl, he⟩
  have HCa := Lib.hid (HC.out.look he)
  obtain ⟨u1, cq⟩ : ∃ u, wa1.cell? ⟨q, 4, none⟩ = some u := ⟨_, HCa.out.blk.get 4 (rowA_get (by decide))⟩
  have fq : wa1.frozen? ⟨q, 4, none⟩ = false := Blk.frozen HCa.out.blk 4
  have HCb : Hid (RRC 32 (rowA cmdT 24 fun _ => 0) w (wa1.setCell ⟨q, 4, none⟩ (.int .i64 (unz (numR la0)))) r g q (rdL 1 la0) (rdF 1 la0 fa0) (rowA cmdT 24 (upd ca0 4 (rdV 1 la0)))) := by
    have h := HCa.out.cell 4 (.int .i64 (unz (numR la0)))
    have e : (rowA cmdT 24 ca0).setIfInBounds 4 (.int .i64 (unz (numR la0))) = rowA cmdT 24 (upd ca0 4 (rdV 1 la0)) := set_row (s := (1, 4)) rfl (by decide) ca0 (rdV 1 la0)
    rw [e] at h
    exact h
  have HRb : Hid (reads [(0, 7), (0, 8), (0, 9), (0, 10), (0, 11), (0, 12), (0, 13), (0, 14), (0, 15)] (rowA cmdT 24 (upd ca0 4 (rdV 1 la0))) (rdL 1 la0) (rdF 1 la0 fa0) = R) := rstep (s := (1, 4)) rfl (by decide) HR.out
  have H0b : Hid (upd ca0 4 (rdV 1 la0) 0 = ((3 : Nat) : Int)) := H0.out
  have HLb : Hid ((rdL 1 la0).length ≤ 500) := Nat.le_trans (rdL_len HY.out) HL.out
  have HYb : Hid (Bytes (rdL 1 la0)) := rdL_bytes HY.out
  have c0 : (wa1.setCell ⟨q, 4, none⟩ (.int .i64 (unz (numR la0)))).cell? ⟨q, 0, none⟩ = some (.int .u8 ((3 : Nat) : Int)) := HCb.out.blk.get 0 (by rw [rowA_get (by decide), H0b.out]; rfl)
  clear HC HCa HR H0 HL HY he
  go_wp2_with fail
  try clear c0
  clear cq fq
  generalize wa1.setCell ⟨q, 4, none⟩ (.int .i64 (unz (numR la0))) = wb1 at HCb ⊢
  generalize rdL 1 la0 = la1 at HCb HRb HLb HYb
  generalize rdF 1 la0 fa0 = fa1 at HCb HRb
  generalize upd ca0 4 (rdV 1 la0) = ca1 at HCb HRb H0b
  have HC := Lib.hid HCb.out
  have HR := Lib.hid HRb.out
  have H0 := Lib.hid H0b.out
  have HL := Lib.hid HLb.out
  have HY := Lib.hid HYb.out
  clear HCb HRb H0b HLb HYb
  with_reducible refine (ref_getcurve g la1 fa1 _ HC.out.eye HL.out).mono ?_
  rintro e wa2 ⟨rfl, he⟩
  have HCa := Lib.hid (HC.out.look he)
  have HRb : Hid (reads [(0, 10), (0, 11), (0, 12), (0, 13), (0, 14), (0, 15)] (rowA cmdT 24 (upd (upd (upd ca1 7 (rdV 0 la1)) 8 (rdV 0 (rdL 0 la1))) 9 (rdV 0 (rdL 0 (rdL 0 la1))))) (rdL 0 (rdL 0 (rdL 0 la1))) (rdF 0 (rdL 0 (rdL 0 la1)) (rdF 0 (rdL 0 la1) (rdF 0 la1 fa1))) = R) := rstep (s := (0, 9)) rfl (by decide) (rstep (s := (0, 8)) rfl (by decide) (rstep (s := (0, 7)) rfl (by decide) HR.out))
  have H0b : Hid ((upd (upd (upd ca1 7 (rdV 0 la1)) 8 (rdV 0 (rdL 0 la1))) 9 (rdV 0 (rdL 0 (rdL 0 la1)))) 0 = ((3 : Nat) : Int)) := H0.out
  have HLb : Hid ((rdL 0 (rdL 0 (rdL 0 la1))).length ≤ 500) := Nat.le_trans (rdL_len (rdL_bytes (rdL_bytes HY.out))) (Nat.le_trans (rdL_len (rdL_bytes HY.out)) (Nat.le_trans (rdL_len HY.out) HL.out))
  have HYb : Hid (Bytes (rdL 0 (rdL 0 (rdL 0 la1)))) := rdL_bytes (rdL_bytes (rdL_bytes HY.out))
  clear HC HR H0 HL HY he
  go_wp2_with (first | (refine wpList_store_part rfl 26 _ _ rfl q 7 _ rfl rfl 32 _ HCa.out.blk (by rw [rowA_size]; simp) (by kernel_rfl) (by simp [Value.oneCell']) ?_; intro wb2 hbN hfN; rw [curve_row rfl rfl rfl] at hbN; have HCb : Hid (RRC 32 (rowA cmdT 24 fun _ => 0) w wb2 r g q (rdL 0 (rdL 0 (rdL 0 la1))) (rdF 0 (rdL 0 (rdL 0 la1)) (rdF 0 (rdL 0 la1) (rdF 0 la1 fa1))) (rowA cmdT 24 (upd (upd (upd ca1 7 (rdV 0 la1)) 8 (rdV 0 (rdL 0 la1))) 9 (rdV 0 (rdL 0 (rdL 0 la1)))))) := HCa.out.over hbN hfN; have c0 : wb2.cell? ⟨q, 0, none⟩ = some (.int .u8 ((3 : Nat) : Int)) := HCb.out.blk.get 0 (by rw [rowA_get (by decide), H0b.out]; rfl); clear hbN hfN))
  try clear c0
  clear HCa
  generalize (rdL 0 (rdL 0 (rdL 0 la1))) = la2 at HCb HRb HLb HYb
  generalize (rdF 0 (rdL 0 (rdL 0 la1)) (rdF 0 (rdL 0 la1) (rdF 0 la1 fa1))) = fa2 at HCb HRb
  generalize (upd (upd (upd ca1 7 (rdV 0 la1)) 8 (rdV 0 (rdL 0 la1))) 9 (rdV 0 (rdL 0 (rdL 0 la1)))) = ca2 at HCb HRb H0b
  have HC := Lib.hid HCb.out
  have HR := Lib.hid HRb.out
  have H0 := Lib.hid H0b.out
  have HL := Lib.hid HLb.out
  have HY := Lib.hid HYb.out
  clear HCb HRb H0b HLb HYb
  with_reducible refine (ref_getcurve g la2 fa2 _ HC.out.eye HL.out).mono ?_
  rintro e wa3 ⟨rfl, he⟩
  have HCa := Lib.hid (HC.out.look he)
  have HRb : Hid (reads [(0, 13), (0, 14), (0, 15)] (rowA cmdT 24 (upd (upd (upd ca2 10 (rdV 0 la2)) 11 (rdV 0 (rdL 0 la2))) 12 (rdV 0 (rdL 0 (rdL 0 la2))))) (rdL 0 (rdL 0 (rdL 0 la2))) (rdF 0 (rdL 0 (rdL 0 la2)) (rdF 0 (rdL 0 la2) (rdF 0 la2 fa2))) = R) := rstep (s := (0, 12)) rfl (by decide) (rstep (s := (0, 11)) rfl (by decide) (rstep (s := (0, 10)) rfl (by decide) HR.out))
  have H0b : Hid ((upd (upd (upd ca2 10 (rdV 0 la2)) 11 (rdV 0 (rdL 0 la2))) 12 (rdV 0 (rdL 0 (rdL 0 la2)))) 0 = ((3 : Nat) : Int)) := H0.out
  have HLb : Hid ((rdL 0 (rdL 0 (rdL 0 la2))).length ≤ 500) := Nat.le_trans (rdL_len (rdL_bytes (rdL_bytes HY.out))) (Nat.le_trans (rdL_len (rdL_bytes HY.out)) (Nat.le_trans (rdL_len HY.out) HL.out))
  have HYb : Hid (Bytes (rdL 0 (rdL 0 (rdL 0 la2)))) := rdL_bytes (rdL_bytes (rdL_bytes HY.out))
  clear HC HR H0 HL HY he
  go_wp2_with (first | (refine wpList_store_part rfl 26 _ _ rfl q 10 _ rfl rfl 32 _ HCa.out.blk (by rw [rowA_size]; simp) (by kernel_rfl) (by simp [Value.oneCell']) ?_; intro wb3 hbN hfN; rw [curve_row rfl rfl rfl] at hbN; have HCb : Hid (RRC 32 (rowA cmdT 24 fun _ => 0) w wb3 r g q (rdL 0 (rdL 0 (rdL 0 la2))) (rdF 0 (rdL 0 (rdL 0 la2)) (rdF 0 (rdL 0 la2) (rdF 0 la2 fa2))) (rowA cmdT 24 (upd (upd (upd ca2 10 (rdV 0 la2)) 11 (rdV 0 (rdL 0 la2))) 12 (rdV 0 (rdL 0 (rdL 0 la2)))))) := HCa.out.over hbN hfN; have c0 : wb3.cell? ⟨q, 0, none⟩ = some (.int .u8 ((3 : Nat) : Int)) := HCb.out.blk.get 0 (by rw [rowA_get (by decide), H0b.out]; rfl); clear hbN hfN))
  try clear c0
  clear HCa
  generalize (rdL 0 (rdL 0 (rdL 0 la2))) = la3 at HCb HRb HLb HYb
  generalize (rdF 0 (rdL 0 (rdL 0 la2)) (rdF 0 (rdL 0 la2) (rdF 0 la2 fa2))) = fa3 at HCb HRb
  generalize (upd (upd (upd ca2 10 (rdV 0 la2)) 11 (rdV 0 (rdL 0 la2))) 12 (rdV 0 (rdL 0 (rdL 0 la2)))) = ca3 at HCb HRb H0b
  have HC := Lib.hid HCb.out
  have HR := Lib.hid HRb.out
  have H0 := Lib.hid H0b.out
  have HL := Lib.hid HLb.out
  have HY := Lib.hid HYb.out
  clear HCb HRb H0b HLb HYb
  with_reducible refine (ref_getcurve g la3 fa3 _ HC.out.eye HL.out).mono ?_
  rintro e wa4 ⟨rfl, he⟩
  have HCa := Lib.hid (HC.out.look he)
  have HRb : Hid (reads [] (rowA cmdT 24 (upd (upd (upd ca3 13 (rdV 0 la3)) 14 (rdV 0 (rdL 0 la3))) 15 (rdV 0 (rdL 0 (rdL 0 la3))))) (rdL 0 (rdL 0 (rdL 0 la3))) (rdF 0 (rdL 0 (rdL 0 la3)) (rdF 0 (rdL 0 la3) (rdF 0 la3 fa3))) = R) := rstep (s := (0, 15)) rfl (by decide) (rstep (s := (0, 14)) rfl (by decide) (rstep (s := (0, 13)) rfl (by decide) HR.out))
  have H0b : Hid ((upd (upd (upd ca3 13 (rdV 0 la3)) 14 (rdV 0 (rdL 0 la3))) 15 (rdV 0 (rdL 0 (rdL 0 la3)))) 0 = ((3 : Nat) : Int)) := H0.out
  have HLb : Hid ((rdL 0 (rdL 0 (rdL 0 la3))).length ≤ 500) := Nat.le_trans (rdL_len (rdL_bytes (rdL_bytes HY.out))) (Nat.le_trans (rdL_len (rdL_bytes HY.out)) (Nat.le_trans (rdL_len HY.out) HL.out))
  have HYb : Hid (Bytes (rdL 0 (rdL 0 (rdL 0 la3)))) := rdL_bytes (rdL_bytes (rdL_bytes HY.out))
  clear HC HR H0 HL HY he
  go_wp2_with (first | (refine wpList_store_part rfl 26 _ _ rfl q 13 _ rfl rfl 32 _ HCa.out.blk (by rw [rowA_size]; simp) (by kernel_rfl) (by simp [Value.oneCell']) ?_; intro wb4 hbN hfN; rw [curve_row rfl rfl rfl] at hbN; have HCb : Hid (RRC 32 (rowA cmdT 24 fun _ => 0) w wb4 r g q (rdL 0 (rdL 0 (rdL 0 la3))) (rdF 0 (rdL 0 (rdL 0 la3)) (rdF 0 (rdL 0 la3) (rdF 0 la3 fa3))) (rowA cmdT 24 (upd (upd (upd ca3 13 (rdV 0 la3)) 14 (rdV 0 (rdL 0 la3))) 15 (rdV 0 (rdL 0 (rdL 0 la3)))))) := HCa.out.over hbN hfN; have c0 : wb4.cell? ⟨q, 0, none⟩ = some (.int .u8 ((3 : Nat) : Int)) := HCb.out.blk.get 0 (by rw [rowA_get (by decide), H0b.out]; rfl); clear hbN hfN))
  try clear c0
  clear HCa
  generalize (rdL 0 (rdL 0 (rdL 0 la3))) = la4 at HCb HRb HLb HYb
  generalize (rdF 0 (rdL 0 (rdL 0 la3)) (rdF 0 (rdL 0 la3) (rdF 0 la3 fa3))) = fa4 at HCb HRb
  generalize (upd (upd (upd ca3 13 (rdV 0 la3)) 14 (rdV 0 (rdL 0 la3))) 15 (rdV 0 (rdL 0 (rdL 0 la3)))) = ca4 at HCb HRb H0b
  have HC := Lib.hid HCb.out
  have HR := Lib.hid HRb.out
  have H0 := Lib.hid H0b.out
  have HL := Lib.hid HLb.out
  have HY := Lib.hid HYb.out
  clear HCb HRb H0b HLb HYb
  obtain rfl : (rowA cmdT 24 ca4, la4, fa4) = R := HR.out
  with_reducible refine (reyeDone g la4 fa4 _ HC.out.eye).mono ?_
  rintro e wx ⟨rfl, rfl⟩
  have hd : doneB la4 fa4 = false := HD.out
  rw [hd]
  clear hd
  go_wp2_with (first | (refine wpList_store_part rfl 32 _ _ rfl r 0 _ rfl rfl 32 _ HC.out.res (by simp [rowA_size]) (by first | (rw [rowA_size]; kernel_rfl) | kernel_rfl) (by first | exact rowA_one | simp [Value.oneCell']) ?_; intro w9 hb9 hf9; rw [zero_cmd, rowA_whole] at hb9; have H9 := Lib.hid (HC.out.put hb9 hf9); clear hb9 hf9))
  refine result_blk2 (k := 2) (j := 3) rfl rfl rfl H9.out.res Try.underlying32 rfl (by rw [rowA_size]; kernel_rfl) rfl ?_
  exact ⟨rfl, H9.out.below⟩

end Go.Proofs.Ytbageagobalgbaa
