/-
  ReadReply: what bytes are.
-/
import Derived.Test.YtjhffbhjiflfeaaDoorProg
import Derived.Test.YtjhffbhjiflfeaaDoorCmdV
namespace Go.Proofs.YtjhffbhjiflfeaaDoor
set_option linter.unusedVariables false
set_option linter.unusedSimpArgs false
set_option maxRecDepth 100000
open Go.RowKit

theorem reads_dead : ∀ (L : List (Nat × Nat)) (cs : Array Value), (reads L cs [] true).2 = ([], true)
  | [], cs => rfl
  | s :: r, cs => by
    obtain ⟨a, b, _⟩ := rd_dead s.1
    simp only [reads]
    rw [a, b]
    exact reads_dead r _

set_option maxHeartbeats 16000000 in
theorem rep_read_bad (l : List Nat) (w : World) (hl : Bytes l) (hkk : byteR l ≠ 0) :
    Calls Tryd.prog 11 #[.string (bs l)] w fun e w' => e = .returned (.tuple #[.agg (rowA replyT 10 fun _ => 0), .int .i64 140]) ∧ Below w.heap.size w w' := by
  have hE : endE (reads replySlots (rowA replyT 10 fun _ => 0) [] true).2.1 (reads replySlots (rowA replyT 10 fun _ => 0) [] true).2.2 = 140 := by rw [reads_dead]; rfl
  obtain ⟨R, hR⟩ : ∃ R, reads replySlots (rowA replyT 10 fun _ => 0) [] true = R := ⟨_, rfl⟩
  rw [hR] at hE
  skip
  have HE := Lib.hid (And.intro hE hR)
  clear hE hR
  have HBY := Lib.hid hl
  clear hl
  obtain ⟨r, hr⟩ : ∃ r, w.heap.size = r := ⟨_, rfl⟩
  rw [hr]
  have HR := Lib.hid hr
  clear hr
  go_enter Tryd.func11, Tryd.ntmps11
  go_upto_region 2 with (fail)
  rw [zero_reply]
  try rw [HR.out]
  have a0 := (Blk.new w 47 (rowA replyT 10 fun _ => 0)).alloc (.cells (rowA replyT 10 fun _ => 0) 47)
  have a1 : Blk ((w.alloc (.cells (rowA replyT 10 fun _ => 0) 47)).alloc (.cells (rowA replyT 10 fun _ => 0) 47)) (w.heap.size + 1) 47 (rowA replyT 10 fun _ => 0) := Blk.new_at (by simp)
  have ab : Below w.heap.size w ((w.alloc (.cells (rowA replyT 10 fun _ => 0) 47)).alloc (.cells (rowA replyT 10 fun _ => 0) 47)) := by go_grown
  have az : ((w.alloc (.cells (rowA replyT 10 fun _ => 0) 47)).alloc (.cells (rowA replyT 10 fun _ => 0) 47)).heap.size = w.heap.size + 2 := by simp
  rw [HR.out] at a0 a1 ab az
  generalize (w.alloc (.cells (rowA replyT 10 fun _ => 0) 47)).alloc (.cells (rowA replyT 10 fun _ => 0) 47) = w1 at a0 a1 ab az ⊢
  have HA := Lib.hid (And.intro a0 (And.intro a1 (And.intro ab az)))
  clear a0 a1 ab az
  go_wp2_with fail
  with_reducible refine (eyeOpen l w1 HBY.out).mono ?_
  rintro e w2 ⟨rfl, he, hb2⟩
  have HC : Hid (RC 47 (rowA replyT 10 fun _ => 0) w w2 r w1.heap.size (r + 1) l false (rowA replyT 10 fun _ => 0)) := by
    have z1 := HA.out.2.2.2
    exact ⟨HA.out.1.below hb2 (by omega), he, HA.out.2.1.below hb2 (by omega), HA.out.2.2.1.trans (hb2.mono (by omega)), by omega, by omega, by omega, by omega, by omega⟩
  clear he hb2
  obtain ⟨g, hg⟩ : ∃ g, w1.heap.size = g := ⟨_, rfl⟩
  rw [hg] at HC ⊢
  clear hg
  go_wp2_with fail
  with_reducible refine (eyeByte g l false w2 HC.out.eye).mono ?_
  rintro e w3 ⟨rfl, he⟩
  replace HC := Lib.hid (HC.out.look he)
  clear he
  obtain ⟨k, hk⟩ : ∃ k, byteR l = k := ⟨_, rfl⟩
  rw [hk] at hkk ⊢
  have hk0 : ((k : Int) == 0) = false := beq_eq_false_iff_ne.2 (by omega)
  have HK := Lib.hid (And.intro hkk hk)
  clear hkk hk
  go_wp2_with fail
  with_reducible refine (eyeFail g _ _ w3 HC.out.eye).mono ?_
  rintro e w3b ⟨rfl, he⟩
  replace HC := Lib.hid (HC.out.look he)
  clear he
  go_wp2_with fail
  with_reducible refine (cmd_told (r + 1) _).mono ?_
  rintro e w5 ⟨rfl, hpp, hb5⟩
  have HCL := Lib.hid (And.intro HC.out.eye.1.lt HC.out.blk.lt)
  replace HC := Lib.hid (HC.out.next hb5)
  have HP := Lib.hid (And.intro (PieceAt.blk hpp rfl (slots_one (r + 1) replySlots)) hb5)
  obtain ⟨bp, hbp⟩ : ∃ bp, (World.heap w3b).size = bp := ⟨_, rfl⟩
  rw [hbp] at HP HCL ⊢
  clear hpp hb5 hbp hk0
  have RD : Hid (Calls Tryd.prog 20 #[.pointer (some ⟨g, 0, none⟩), .slice (some ⟨bp, 0, none⟩) 10 10] w5 fun e w' => e = .returned (.int .i64 (endE (reads replySlots (rowA replyT 10 fun _ => 0) [] true).2.1 (reads replySlots (rowA replyT 10 fun _ => 0) [] true).2.2)) ∧ ReadTo g (r + 1) 47 (reads replySlots (rowA replyT 10 fun _ => 0) [] true) w5 w') :=
    cmd_read g (r + 1) 47 (rowA replyT 10 fun _ => 0) replySlots [] true bp 10 w5 (by decide) HP.out.1 (by have := HCL.out.1; omega) (by have := HCL.out.2; omega) HC.out.gq HC.out.blk HC.out.eye (fun s hs => by rw [rowA_size]; exact (reply_ok s hs).2.2)
  rw [HE.out.2, HE.out.1] at RD
  go_wp2_with fail
  with_reducible refine RD.out.mono ?_
  rintro e w6 ⟨rfl, hrd⟩
  replace HC := Lib.hid (HC.out.read hrd)
  clear hrd RD
  go_wp2_with (first | (refine wpList_store_part rfl 47 _ _ rfl r 0 _ rfl rfl 47 _ HC.out.res (by simp [rowA_size]) (by first | (rw [rowA_size]; kernel_rfl) | kernel_rfl) (by first | exact rowA_one | simp [Value.oneCell']) ?_; intro w9 hb9 hf9; rw [zero_reply, rowA_whole] at hb9; have H9 := Lib.hid (HC.out.put hb9 hf9); clear hb9 hf9))
  refine result_blk2 (k := 2) (j := 3) rfl rfl rfl H9.out.res Tryd.underlying47 rfl (by rw [rowA_size]; kernel_rfl) rfl ?_
  exact ⟨rfl, H9.out.below⟩

set_option maxHeartbeats 16000000 in
theorem rep_read_end (l : List Nat) (w : World) (hl : Bytes l) (hkk : byteR l = 0) (hE : endE (reads replySlots (rowA replyT 10 fun _ => 0) (byteL l) (byteF l false)).2.1 (reads replySlots (rowA replyT 10 fun _ => 0) (byteL l) (byteF l false)).2.2 = 140) :
    Calls Tryd.prog 11 #[.string (bs l)] w fun e w' => e = .returned (.tuple #[.agg (rowA replyT 10 fun _ => 0), .int .i64 140]) ∧ Below w.heap.size w w' := by
  obtain ⟨R, hR⟩ : ∃ R, reads replySlots (rowA replyT 10 fun _ => 0) (byteL l) (byteF l false) = R := ⟨_, rfl⟩
  rw [hR] at hE
  skip
  have HE := Lib.hid (And.intro hE hR)
  clear hE hR
  have HBY := Lib.hid hl
  clear hl
  obtain ⟨r, hr⟩ : ∃ r, w.heap.size = r := ⟨_, rfl⟩
  rw [hr]
  have HR := Lib.hid hr
  clear hr
  go_enter Tryd.func11, Tryd.ntmps11
  go_upto_region 2 with (fail)
  rw [zero_reply]
  try rw [HR.out]
  have a0 := (Blk.new w 47 (rowA replyT 10 fun _ => 0)).alloc (.cells (rowA replyT 10 fun _ => 0) 47)
  have a1 : Blk ((w.alloc (.cells (rowA replyT 10 fun _ => 0) 47)).alloc (.cells (rowA replyT 10 fun _ => 0) 47)) (w.heap.size + 1) 47 (rowA replyT 10 fun _ => 0) := Blk.new_at (by simp)
  have ab : Below w.heap.size w ((w.alloc (.cells (rowA replyT 10 fun _ => 0) 47)).alloc (.cells (rowA replyT 10 fun _ => 0) 47)) := by go_grown
  have az : ((w.alloc (.cells (rowA replyT 10 fun _ => 0) 47)).alloc (.cells (rowA replyT 10 fun _ => 0) 47)).heap.size = w.heap.size + 2 := by simp
  rw [HR.out] at a0 a1 ab az
  generalize (w.alloc (.cells (rowA replyT 10 fun _ => 0) 47)).alloc (.cells (rowA replyT 10 fun _ => 0) 47) = w1 at a0 a1 ab az ⊢
  have HA := Lib.hid (And.intro a0 (And.intro a1 (And.intro ab az)))
  clear a0 a1 ab az
  go_wp2_with fail
  with_reducible refine (eyeOpen l w1 HBY.out).mono ?_
  rintro e w2 ⟨rfl, he, hb2⟩
  have HC : Hid (RC 47 (rowA replyT 10 fun _ => 0) w w2 r w1.heap.size (r + 1) l false (rowA replyT 10 fun _ => 0)) := by
    have z1 := HA.out.2.2.2
    exact ⟨HA.out.1.below hb2 (by omega), he, HA.out.2.1.below hb2 (by omega), HA.out.2.2.1.trans (hb2.mono (by omega)), by omega, by omega, by omega, by omega, by omega⟩
  clear he hb2
  obtain ⟨g, hg⟩ : ∃ g, w1.heap.size = g := ⟨_, rfl⟩
  rw [hg] at HC ⊢
  clear hg
  go_wp2_with fail
  with_reducible refine (eyeByte g l false w2 HC.out.eye).mono ?_
  rintro e w3 ⟨rfl, he⟩
  replace HC := Lib.hid (HC.out.look he)
  clear he
  obtain ⟨k, hk⟩ : ∃ k, byteR l = k := ⟨_, rfl⟩
  rw [hk] at hkk ⊢
  have hk0 : ((k : Int) == 0) = true := beq_iff_eq.2 (by omega)
  have HK := Lib.hid (And.intro hkk hk)
  clear hkk hk
  go_wp2_with fail
  with_reducible refine (cmd_told (r + 1) _).mono ?_
  rintro e w5 ⟨rfl, hpp, hb5⟩
  have HCL := Lib.hid (And.intro HC.out.eye.1.lt HC.out.blk.lt)
  replace HC := Lib.hid (HC.out.next hb5)
  have HP := Lib.hid (And.intro (PieceAt.blk hpp rfl (slots_one (r + 1) replySlots)) hb5)
  obtain ⟨bp, hbp⟩ : ∃ bp, (World.heap w3).size = bp := ⟨_, rfl⟩
  rw [hbp] at HP HCL ⊢
  clear hpp hb5 hbp hk0
  have RD : Hid (Calls Tryd.prog 20 #[.pointer (some ⟨g, 0, none⟩), .slice (some ⟨bp, 0, none⟩) 10 10] w5 fun e w' => e = .returned (.int .i64 (endE (reads replySlots (rowA replyT 10 fun _ => 0) (byteL l) (byteF l false)).2.1 (reads replySlots (rowA replyT 10 fun _ => 0) (byteL l) (byteF l false)).2.2)) ∧ ReadTo g (r + 1) 47 (reads replySlots (rowA replyT 10 fun _ => 0) (byteL l) (byteF l false)) w5 w') :=
    cmd_read g (r + 1) 47 (rowA replyT 10 fun _ => 0) replySlots (byteL l) (byteF l false) bp 10 w5 (by decide) HP.out.1 (by have := HCL.out.1; omega) (by have := HCL.out.2; omega) HC.out.gq HC.out.blk HC.out.eye (fun s hs => by rw [rowA_size]; exact (reply_ok s hs).2.2)
  rw [HE.out.2, HE.out.1] at RD
  go_wp2_with fail
  with_reducible refine RD.out.mono ?_
  rintro e w6 ⟨rfl, hrd⟩
  replace HC := Lib.hid (HC.out.read hrd)
  clear hrd RD
  go_wp2_with (first | (refine wpList_store_part rfl 47 _ _ rfl r 0 _ rfl rfl 47 _ HC.out.res (by simp [rowA_size]) (by first | (rw [rowA_size]; kernel_rfl) | kernel_rfl) (by first | exact rowA_one | simp [Value.oneCell']) ?_; intro w9 hb9 hf9; rw [zero_reply, rowA_whole] at hb9; have H9 := Lib.hid (HC.out.put hb9 hf9); clear hb9 hf9))
  refine result_blk2 (k := 2) (j := 3) rfl rfl rfl H9.out.res Tryd.underlying47 rfl (by rw [rowA_size]; kernel_rfl) rfl ?_
  exact ⟨rfl, H9.out.below⟩

set_option maxHeartbeats 16000000 in
theorem rep_read_ok (l : List Nat) (w : World) (hl : Bytes l) (hkk : byteR l = 0) (hE : endE (reads replySlots (rowA replyT 10 fun _ => 0) (byteL l) (byteF l false)).2.1 (reads replySlots (rowA replyT 10 fun _ => 0) (byteL l) (byteF l false)).2.2 = 0) :
    Calls Tryd.prog 11 #[.string (bs l)] w fun e w' => e = .returned (.tuple #[.agg (reads replySlots (rowA replyT 10 fun _ => 0) (byteL l) (byteF l false)).1, .int .i64 0]) ∧ Below w.heap.size w w' := by
  obtain ⟨R, hR⟩ : ∃ R, reads replySlots (rowA replyT 10 fun _ => 0) (byteL l) (byteF l false) = R := ⟨_, rfl⟩
  rw [hR] at hE
  rw [hR]
  have HE := Lib.hid (And.intro hE hR)
  clear hE hR
  have HBY := Lib.hid hl
  clear hl
  obtain ⟨r, hr⟩ : ∃ r, w.heap.size = r := ⟨_, rfl⟩
  rw [hr]
  have HR := Lib.hid hr
  clear hr
  go_enter Tryd.func11, Tryd.ntmps11
  go_upto_region 2 with (fail)
  rw [zero_reply]
  try rw [HR.out]
  have a0 := (Blk.new w 47 (rowA replyT 10 fun _ => 0)).alloc (.cells (rowA replyT 10 fun _ => 0) 47)
  have a1 : Blk ((w.alloc (.cells (rowA replyT 10 fun _ => 0) 47)).alloc (.cells (rowA replyT 10 fun _ => 0) 47)) (w.heap.size + 1) 47 (rowA replyT 10 fun _ => 0) := Blk.new_at (by simp)
  have ab : Below w.heap.size w ((w.alloc (.cells (rowA replyT 10 fun _ => 0) 47)).alloc (.cells (rowA replyT 10 fun _ => 0) 47)) := by go_grown
  have az : ((w.alloc (.cells (rowA replyT 10 fun _ => 0) 47)).alloc (.cells (rowA replyT 10 fun _ => 0) 47)).heap.size = w.heap.size + 2 := by simp
  rw [HR.out] at a0 a1 ab az
  generalize (w.alloc (.cells (rowA replyT 10 fun _ => 0) 47)).alloc (.cells (rowA replyT 10 fun _ => 0) 47) = w1 at a0 a1 ab az ⊢
  have HA := Lib.hid (And.intro a0 (And.intro a1 (And.intro ab az)))
  clear a0 a1 ab az
  go_wp2_with fail
  with_reducible refine (eyeOpen l w1 HBY.out).mono ?_
  rintro e w2 ⟨rfl, he, hb2⟩
  have HC : Hid (RC 47 (rowA replyT 10 fun _ => 0) w w2 r w1.heap.size (r + 1) l false (rowA replyT 10 fun _ => 0)) := by
    have z1 := HA.out.2.2.2
    exact ⟨HA.out.1.below hb2 (by omega), he, HA.out.2.1.below hb2 (by omega), HA.out.2.2.1.trans (hb2.mono (by omega)), by omega, by omega, by omega, by omega, by omega⟩
  clear he hb2
  obtain ⟨g, hg⟩ : ∃ g, w1.heap.size = g := ⟨_, rfl⟩
  rw [hg] at HC ⊢
  clear hg
  go_wp2_with fail
  with_reducible refine (eyeByte g l false w2 HC.out.eye).mono ?_
  rintro e w3 ⟨rfl, he⟩
  replace HC := Lib.hid (HC.out.look he)
  clear he
  obtain ⟨k, hk⟩ : ∃ k, byteR l = k := ⟨_, rfl⟩
  rw [hk] at hkk ⊢
  have hk0 : ((k : Int) == 0) = true := beq_iff_eq.2 (by omega)
  have HK := Lib.hid (And.intro hkk hk)
  clear hkk hk
  go_wp2_with fail
  with_reducible refine (cmd_told (r + 1) _).mono ?_
  rintro e w5 ⟨rfl, hpp, hb5⟩
  have HCL := Lib.hid (And.intro HC.out.eye.1.lt HC.out.blk.lt)
  replace HC := Lib.hid (HC.out.next hb5)
  have HP := Lib.hid (And.intro (PieceAt.blk hpp rfl (slots_one (r + 1) replySlots)) hb5)
  obtain ⟨bp, hbp⟩ : ∃ bp, (World.heap w3).size = bp := ⟨_, rfl⟩
  rw [hbp] at HP HCL ⊢
  clear hpp hb5 hbp hk0
  have RD : Hid (Calls Tryd.prog 20 #[.pointer (some ⟨g, 0, none⟩), .slice (some ⟨bp, 0, none⟩) 10 10] w5 fun e w' => e = .returned (.int .i64 (endE (reads replySlots (rowA replyT 10 fun _ => 0) (byteL l) (byteF l false)).2.1 (reads replySlots (rowA replyT 10 fun _ => 0) (byteL l) (byteF l false)).2.2)) ∧ ReadTo g (r + 1) 47 (reads replySlots (rowA replyT 10 fun _ => 0) (byteL l) (byteF l false)) w5 w') :=
    cmd_read g (r + 1) 47 (rowA replyT 10 fun _ => 0) replySlots (byteL l) (byteF l false) bp 10 w5 (by decide) HP.out.1 (by have := HCL.out.1; omega) (by have := HCL.out.2; omega) HC.out.gq HC.out.blk HC.out.eye (fun s hs => by rw [rowA_size]; exact (reply_ok s hs).2.2)
  rw [HE.out.2, HE.out.1] at RD
  go_wp2_with fail
  with_reducible refine RD.out.mono ?_
  rintro e w6 ⟨rfl, hrd⟩
  replace HC := Lib.hid (HC.out.read hrd)
  clear hrd RD
  have HSZ : Hid (R.1.size = 10 ∧ R.1.all (·.oneCell') = true) := by
    have h := reads_rowA (ty := replyT) (n := 10) replySlots (fun _ => 0) (byteL l) (byteF l false) (fun s hs => ⟨(reply_ok s hs).1, (reply_ok s hs).2.1⟩)
    rw [HE.out.2] at h
    rw [h]
    exact ⟨rowA_size, rowA_one⟩
  go_wp2_with (first | (refine wpList_load_blk rfl 47 _ rfl (r + 1) rfl 47 _ _ HC.out.blk Tryd.underlying47 rfl (by rw [HSZ.out.1]; kernel_rfl) ?_) | (refine wpList_store_part rfl 47 _ _ rfl r 0 _ rfl rfl 47 _ HC.out.res (by rw [HSZ.out.1, rowA_size]; decide) (by rw [HSZ.out.1]; kernel_rfl) HSZ.out.2 ?_; intro w9 hb9 hf9; rw [splice_all _ _ (by rw [Array.length_toList, HSZ.out.1, rowA_size]), Array.toArray_toList] at hb9; have H9 := Lib.hid (HC.out.put hb9 hf9); clear hb9 hf9))
  refine result_blk2 (k := 2) (j := 3) rfl rfl rfl H9.out.res Tryd.underlying47 rfl (by rw [HSZ.out.1]; kernel_rfl) rfl ?_
  exact ⟨rfl, H9.out.below⟩

end Go.Proofs.YtjhffbhjiflfeaaDoor
