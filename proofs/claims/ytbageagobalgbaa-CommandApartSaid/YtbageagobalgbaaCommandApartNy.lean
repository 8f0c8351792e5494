/-
  The law CommandApart, walked: part ny.
-/
import Derived.Test.YtbageagobalgbaaProg
import Derived.Test.YtbageagobalgbaaCmdLawA
namespace Go.Proofs.Ytbageagobalgbaa
set_option linter.unusedVariables false
set_option linter.unusedSimpArgs false
set_option maxRecDepth 100000
open Go.RowKit

set_option maxHeartbeats 32000000 in
theorem capart_ny (a c r q : Nat → Int) (ka kc : Nat) (S T U V : ByteArray) (rr : Bool) (w : World) (ha : a 0 = ka) (hc : c 0 = kc) 
    (CA : ∀ w, Calls Try.prog 12 #[.agg (rowA cmdT 24 (ownC ka a))] w fun e w' => e = .returned (.tuple #[.string S, .int .i64 0]) ∧ Below w.heap.size w w')
    (CC : ∀ w, Calls Try.prog 12 #[.agg (rowA cmdT 24 (ownC kc c))] w fun e w' => e = .returned (.tuple #[.string T, .int .i64 2]) ∧ Below w.heap.size w w')
    (CU : ∀ w, Calls Try.prog 14 #[.agg (rowA replyT 10 r)] w fun e w' => e = .returned (.tuple #[.string U, .int .i64 0]) ∧ Below w.heap.size w w')
    (CV : ∀ w, Calls Try.prog 14 #[.agg (rowA replyT 10 q)] w fun e w' => e = .returned (.tuple #[.string V, .int .i64 0]) ∧ Below w.heap.size w w')
    (hUV : (U.toList == V.toList) = rr) (hrr : eqB 10 r q = rr) :
    Calls Try.prog 6 #[.agg (rowA cmdT 24 a), .agg (rowA cmdT 24 c), .agg (rowA replyT 10 r), .agg (rowA replyT 10 q)] w fun e w' => e = .returned (.bool true) ∧ Below w.heap.size w w' := by
  have HCA := Lib.hid CA
  have HCC := Lib.hid CC
  have HCU := Lib.hid CU
  have HCV := Lib.hid CV
  have HAC := Lib.hid (And.intro ha hc)
  have HER : Hid (∀ w, (Op.equalIn 10000 41 (.agg (rowA replyT 10 r)) (.agg (rowA replyT 10 q))).run Try.prog w = .ok (rr != false) w) := fun w => by rw [eq_reply, hrr]; cases rr <;> rfl
  clear CA CC CU CV ha hc hrr
  obtain ⟨b, hb⟩ : ∃ b, w.heap.size = b := ⟨_, rfl⟩
  rw [hb]
  have HBB := Lib.hid hb
  clear hb
  go_enter Try.func6, Try.ntmps6
  go_upto_region 1 with (fail)
  have hl := Lib.hid (LawA.new w (rowA cmdT 24 a) (rowA cmdT 24 c) (rowA replyT 10 r) (rowA replyT 10 q))
  generalize (((w.alloc (.cells (rowA cmdT 24 a) 32)).alloc (.cells (rowA cmdT 24 c) 32)).alloc (.cells (rowA replyT 10 r) 41)).alloc (.cells (rowA replyT 10 q) 41) = wb at hl ⊢
  rw [HBB.out] at hl
  try rw [HBB.out]
  go_wp2_with fail
  with_reducible refine (cmdAwake wb).mono ?_
  rintro e wd ⟨rfl, hb1⟩
  replace hl := Lib.hid (hl.out.next hb1)
  clear hb1
  go_upto_region 3 with (fail)
  go_cut [9, 10] (fun u v wc => ∃ q1 q2, u = .pointer (some ⟨q1, 0, none⟩) ∧ v = .pointer (some ⟨q2, 0, none⟩) ∧ Blk wc q1 32 (rowA cmdT 24 (ownC ka a)) ∧ Blk wc q2 32 (rowA cmdT 24 (ownC kc c)) ∧ LawA w wc b (rowA cmdT 24 a) (rowA cmdT 24 c) (rowA replyT 10 r) (rowA replyT 10 q))
  case first =>
    clear HCA HCC HCU HCV HER hUV
    have KE : Hid (∀ w', Below (wd.heap.size) wd w' → (True) ∧ Below (wd.heap.size) wd w') := fun w' hb => ⟨trivial, hb⟩
    refine wp_region_noPanic ?_
    refine wp_region_held_drew (S := fun w' => (True) ∧ Below (wd.heap.size) wd w') (by kernel_rfl) (KE.out _ (below_of_drew ((Below.refl wd.heap.size wd)))) (fun hH => ?_)
    have hbR := below_of_drew ((Below.refl wd.heap.size wd))
    (refine wpAnyH_take (i := 0) (v := .agg (rowA cmdT 24 a)) rfl ?_ ?_ ?_ (fun _ _ _ h => h) ?_ ?_ ?_; kernel_rfl; kernel_rfl; kernel_rfl; exact yields_load_blk rfl 32 _ rfl b rfl 32 _ _ (fun w' h => hl.out.x.next h.2) Try.underlying32 rfl (by rw [rowA_size]; kernel_rfl); exact hH)
    try simp only [Act.put, List.getElem_toArray, List.getElem_cons_succ, List.getElem_cons_zero, List.setIfInBounds_toArray, List.set_cons_zero, List.set_cons_succ]
    (refine wpAnyH_take (i := 2) (v := .agg (rowA cmdT 24 c)) rfl ?_ ?_ ?_ (fun _ _ _ h => h) ?_ ?_ ?_; kernel_rfl; kernel_rfl; kernel_rfl; exact yields_load_blk rfl 32 _ rfl (b + 1) rfl 32 _ _ (fun w' h => hl.out.y.next h.2) Try.underlying32 rfl (by rw [rowA_size]; kernel_rfl); exact hH)
    try simp only [Act.put, List.getElem_toArray, List.getElem_cons_succ, List.getElem_cons_zero, List.setIfInBounds_toArray, List.set_cons_zero, List.set_cons_succ]
    refine wpAnyH_ready (rs := [1, 4, 5]) (by kernel_rfl) (by simp) ?_
    refine (AllReadyH.cons rfl (fun K hK => ?_) (AllReadyH.cons rfl (fun K hK => ?_) (AllReadyH.cons rfl (fun K hK => ?_) AllReadyH.nil)))
    · skip
      go_simp
      with_reducible refine (cmd_own a _ ka HAC.out.1).mono ?_
      rintro e w1 ⟨rfl, hb1'⟩
      have hb1 : Below (wd.heap.size) wd w1 := below_next hH.2 hb1'
      try go_wp2_with fail
      refine hK.out _ _ (KE.out _ hb1) (fun hH1 => ?_)
      clear hK K hH
      have hH := hH1
      clear hH1
      try simp only [Act.put, List.getElem_toArray, List.getElem_cons_succ, List.getElem_cons_zero, List.setIfInBounds_toArray, List.set_cons_zero, List.set_cons_succ]
      refine wpAnyH_ready (rs := [3, 4, 5]) (by kernel_rfl) (by simp) ?_
      refine (AllReadyH.cons rfl (fun K hK => ?_) (AllReadyH.cons rfl (fun K hK => ?_) (AllReadyH.cons rfl (fun K hK => ?_) AllReadyH.nil)))
      · skip
        go_simp
        with_reducible refine (cmd_own c _ kc HAC.out.2).mono ?_
        rintro e w2 ⟨rfl, hb2'⟩
        have hb2 : Below (wd.heap.size) wd w2 := below_next hH.2 hb2'
        try go_wp2_with fail
        refine hK.out _ _ (KE.out _ hb2) (fun hH2 => ?_)
        clear hK K hH
        have hH := hH2
        clear hH2
        try simp only [Act.put, List.getElem_toArray, List.getElem_cons_succ, List.getElem_cons_zero, List.setIfInBounds_toArray, List.set_cons_zero, List.set_cons_succ]
        refine wpAnyH_ready (rs := [4, 5]) (by kernel_rfl) (by simp) ?_
        refine (AllReadyH.cons rfl (fun K hK => ?_) (AllReadyH.cons rfl (fun K hK => ?_) AllReadyH.nil))
        · skip
          go_simp
          have QAb3 : Blk (w2.alloc (.cells #[.int .u8 0, .int .u64 0, .int .i64 0, .int .u64 0, .int .i64 0, .int .i64 0, .bool false, .int .u64 0, .int .u64 0, .int .u64 0, .int .u64 0, .int .u64 0, .int .u64 0, .int .u64 0, .int .u64 0, .int .u64 0, .int .i64 0, .int .i64 0, .int .i64 0, .int .u64 0, .int .i64 0, .int .i64 0, .int .u64 0, .int .u64 0] 32)) (w2.heap.size) 32 #[.int .u8 0, .int .u64 0, .int .i64 0, .int .u64 0, .int .i64 0, .int .i64 0, .bool false, .int .u64 0, .int .u64 0, .int .u64 0, .int .u64 0, .int .u64 0, .int .u64 0, .int .u64 0, .int .u64 0, .int .u64 0, .int .i64 0, .int .i64 0, .int .i64 0, .int .u64 0, .int .i64 0, .int .i64 0, .int .u64 0, .int .u64 0] := Blk.new_at (by simp)
          have QGQA : wd.heap.size ≤ w2.heap.size := Nat.le_trans (Below.size (hb2)) (Nat.le_of_eq (by simp))
          have hb3 := Below.alloc (hb2) (Below.size (hb2)) (.cells #[.int .u8 0, .int .u64 0, .int .i64 0, .int .u64 0, .int .i64 0, .int .i64 0, .bool false, .int .u64 0, .int .u64 0, .int .u64 0, .int .u64 0, .int .u64 0, .int .u64 0, .int .u64 0, .int .u64 0, .int .u64 0, .int .i64 0, .int .i64 0, .int .i64 0, .int .u64 0, .int .i64 0, .int .i64 0, .int .u64 0, .int .u64 0] 32)
          refine hK.out _ _ (KE.out _ hb3) (fun hH3 => ?_)
          clear hK K hH
          have hH := hH3
          clear hH3
          try simp only [Act.put, List.getElem_toArray, List.getElem_cons_succ, List.getElem_cons_zero, List.setIfInBounds_toArray, List.set_cons_zero, List.set_cons_succ]
          refine wpAnyH_ready (rs := [5]) (by kernel_rfl) (by simp) ?_
          refine (AllReadyH.cons rfl (fun K hK => ?_) AllReadyH.nil)
          go_simp
          have NEQAQC4 : w2.heap.size ≠ w2.heap.size + 1 := Nat.ne_of_lt (Nat.lt_of_lt_of_eq (Blk.lt QAb3) (by simp))
          have QAb4 := Blk.alloc QAb3 (.cells #[.int .u8 0, .int .u64 0, .int .i64 0, .int .u64 0, .int .i64 0, .int .i64 0, .bool false, .int .u64 0, .int .u64 0, .int .u64 0, .int .u64 0, .int .u64 0, .int .u64 0, .int .u64 0, .int .u64 0, .int .u64 0, .int .i64 0, .int .i64 0, .int .i64 0, .int .u64 0, .int .i64 0, .int .i64 0, .int .u64 0, .int .u64 0] 32)
          have QCb4 : Blk ((w2.alloc (.cells #[.int .u8 0, .int .u64 0, .int .i64 0, .int .u64 0, .int .i64 0, .int .i64 0, .bool false, .int .u64 0, .int .u64 0, .int .u64 0, .int .u64 0, .int .u64 0, .int .u64 0, .int .u64 0, .int .u64 0, .int .u64 0, .int .i64 0, .int .i64 0, .int .i64 0, .int .u64 0, .int .i64 0, .int .i64 0, .int .u64 0, .int .u64 0] 32)).alloc (.cells #[.int .u8 0, .int .u64 0, .int .i64 0, .int .u64 0, .int .i64 0, .int .i64 0, .bool false, .int .u64 0, .int .u64 0, .int .u64 0, .int .u64 0, .int .u64 0, .int .u64 0, .int .u64 0, .int .u64 0, .int .u64 0, .int .i64 0, .int .i64 0, .int .i64 0, .int .u64 0, .int .i64 0, .int .i64 0, .int .u64 0, .int .u64 0] 32)) (w2.heap.size + 1) 32 #[.int .u8 0, .int .u64 0, .int .i64 0, .int .u64 0, .int .i64 0, .int .i64 0, .bool false, .int .u64 0, .int .u64 0, .int .u64 0, .int .u64 0, .int .u64 0, .int .u64 0, .int .u64 0, .int .u64 0, .int .u64 0, .int .i64 0, .int .i64 0, .int .i64 0, .int .u64 0, .int .i64 0, .int .i64 0, .int .u64 0, .int .u64 0] := Blk.new_at (by simp)
          have QGQC : wd.heap.size ≤ w2.heap.size + 1 := Nat.le_trans (Below.size (hb3)) (Nat.le_of_eq (by simp))
          have hb4 := Below.alloc (hb3) (Below.size (hb3)) (.cells #[.int .u8 0, .int .u64 0, .int .i64 0, .int .u64 0, .int .i64 0, .int .i64 0, .bool false, .int .u64 0, .int .u64 0, .int .u64 0, .int .u64 0, .int .u64 0, .int .u64 0, .int .u64 0, .int .u64 0, .int .u64 0, .int .i64 0, .int .i64 0, .int .i64 0, .int .u64 0, .int .i64 0, .int .i64 0, .int .u64 0, .int .u64 0] 32)
          refine hK.out _ _ (KE.out _ hb4) (fun hH4 => ?_)
          clear hK K hH
          have hH := hH4
          clear hH4
          try simp only [Act.put, List.getElem_toArray, List.getElem_cons_succ, List.getElem_cons_zero, List.setIfInBounds_toArray, List.set_cons_zero, List.set_cons_succ]
          refine wpAnyH_ready (rs := [6]) (by kernel_rfl) (by simp) ?_
          refine (AllReadyH.cons rfl (fun K hK => ?_) AllReadyH.nil)
          rw [if_pos (by rfl)]
          refine wp_store_blk 32 _ _ rfl (w2.heap.size) (rowA cmdT 24 (ownC ka a)) _ rfl rfl 32 (QAb4) (by simp [rowA_size]) (by rw [rowA_size]; kernel_rfl) rowA_one ?_
          intro w5 hst5 hfr5
          have hb5 := Below.trans (hb4) (hfr5.below (Below.size (hb4)) (fun k hk e => by have := QGQA; omega))
          have QAb5 := hst5
          have QCb5 := Blk.fr (QCb4) hfr5 (by show ¬ (_ = _); first |assumption |exact Ne.symm (by assumption) |omega)
          refine hK.out _ _ (KE.out _ hb5) (fun hH5 => ?_)
          clear hK K hH
          have hH := hH5
          clear hH5
          try simp only [Act.put, List.getElem_toArray, List.getElem_cons_succ, List.getElem_cons_zero, List.setIfInBounds_toArray, List.set_cons_zero, List.set_cons_succ]
          refine wpAnyH_ready (rs := [7]) (by kernel_rfl) (by simp) ?_
          refine (AllReadyH.cons rfl (fun K hK => ?_) AllReadyH.nil)
          rw [if_pos (by rfl)]
          refine wp_store_blk 32 _ _ rfl (w2.heap.size + 1) (rowA cmdT 24 (ownC kc c)) _ rfl rfl 32 (QCb5) (by simp [rowA_size]) (by rw [rowA_size]; kernel_rfl) rowA_one ?_
          intro w6 hst6 hfr6
          have hb6 := Below.trans (hb5) (hfr6.below (Below.size (hb5)) (fun k hk e => by have := QGQC; omega))
          have QCb6 := hst6
          have QAb6 := Blk.fr (QAb5) hfr6 (by show ¬ (_ = _); first |assumption |exact Ne.symm (by assumption) |omega)
          refine hK.out _ _ (KE.out _ hb6) (fun hH6 => ?_)
          clear hK K hH
          have hH := hH6
          clear hH6
          try simp only [Act.put, List.getElem_toArray, List.getElem_cons_succ, List.getElem_cons_zero, List.setIfInBounds_toArray, List.set_cons_zero, List.set_cons_succ]
          refine wpAnyH_done (by kernel_rfl) ?_ _
          refine NoPanic.normal ?_
          have p1 := QAb6
          have p2 := QCb6
          rw [zero_cmd, rowA_whole] at p1 p2
          have p3 := hl.out.next hb6
          go_wp2_with fail
          go_meet
          exact ⟨_, _, rfl, rfl, p1, p2, p3⟩
        · skip
          go_simp
          have QCb7 : Blk (w2.alloc (.cells #[.int .u8 0, .int .u64 0, .int .i64 0, .int .u64 0, .int .i64 0, .int .i64 0, .bool false, .int .u64 0, .int .u64 0, .int .u64 0, .int .u64 0, .int .u64 0, .int .u64 0, .int .u64 0, .int .u64 0, .int .u64 0, .int .i64 0, .int .i64 0, .int .i64 0, .int .u64 0, .int .i64 0, .int .i64 0, .int .u64 0, .int .u64 0] 32)) (w2.heap.size) 32 #[.int .u8 0, .int .u64 0, .int .i64 0, .int .u64 0, .int .i64 0, .int .i64 0, .bool false, .int .u64 0, .int .u64 0, .int .u64 0, .int .u64 0, .int .u64 0, .int .u64 0, .int .u64 0, .int .u64 0, .int .u64 0, .int .i64 0, .int .i64 0, .int .i64 0, .int .u64 0, .int .i64 0, .int .i64 0, .int .u64 0, .int .u64 0] := Blk.new_at (by simp)
          have QGQC : wd.heap.size ≤ w2.heap.size := Nat.le_trans (Below.size (hb2)) (Nat.le_of_eq (by simp))
          have hb7 := Below.alloc (hb2) (Below.size (hb2)) (.cells #[.int .u8 0, .int .u64 0, .int .i64 0, .int .u64 0, .int .i64 0, .int .i64 0, .bool false, .int .u64 0, .int .u64 0, .int .u64 0, .int .u64 0, .int .u64 0, .int .u64 0, .int .u64 0, .int .u64 0, .int .u64 0, .int .i64 0, .int .i64 0, .int .i64 0, .int .u64 0, .int .i64 0, .int .i64 0, .int .u64 0, .int .u64 0] 32)
          refine hK.out _ _ (KE.out _ hb7) (fun hH7 => ?_)
          clear hK K hH
          have hH := hH7
          clear hH7
          try simp only [Act.put, List.getElem_toArray, List.getElem_cons_succ, List.getElem_cons_zero, List.setIfInBounds_toArray, List.set_cons_zero, List.set_cons_succ]
          refine wpAnyH_ready (rs := [4]) (by kernel_rfl) (by simp) ?_
          refine (AllReadyH.cons rfl (fun K hK => ?_) AllReadyH.nil)
          go_simp
          have NEQCQA8 : w2.heap.size ≠ w2.heap.size + 1 := Nat.ne_of_lt (Nat.lt_of_lt_of_eq (Blk.lt QCb7) (by simp))
          have QCb8 := Blk.alloc QCb7 (.cells #[.int .u8 0, .int .u64 0, .int .i64 0, .int .u64 0, .int .i64 0, .int .i64 0, .bool false, .int .u64 0, .int .u64 0, .int .u64 0, .int .u64 0, .int .u64 0, .int .u64 0, .int .u64 0, .int .u64 0, .int .u64 0, .int .i64 0, .int .i64 0, .int .i64 0, .int .u64 0, .int .i64 0, .int .i64 0, .int .u64 0, .int .u64 0] 32)
          have QAb8 : Blk ((w2.alloc (.cells #[.int .u8 0, .int .u64 0, .int .i64 0, .int .u64 0, .int .i64 0, .int .i64 0, .bool false, .int .u64 0, .int .u64 0, .int .u64 0, .int .u64 0, .int .u64 0, .int .u64 0, .int .u64 0, .int .u64 0, .int .u64 0, .int .i64 0, .int .i64 0, .int .i64 0, .int .u64 0, .int .i64 0, .int .i64 0, .int .u64 0, .int .u64 0] 32)).alloc (.cells #[.int .u8 0, .int .u64 0, .int .i64 0, .int .u64 0, .int .i64 0, .int .i64 0, .bool false, .int .u64 0, .int .u64 0, .int .u64 0, .int .u64 0, .int .u64 0, .int .u64 0, .int .u64 0, .int .u64 0, .int .u64 0, .int .i64 0, .int .i64 0, .int .i64 0, .int .u64 0, .int .i64 0, .int .i64 0, .int .u64 0, .int .u64 0] 32)) (w2.heap.size + 1) 32 #[.int .u8 0, .int .u64 0, .int .i64 0, .int .u64 0, .int .i64 0, .int .i64 0, .bool false, .int .u64 0, .int .u64 0, .int .u64 0, .int .u64 0, .int .u64 0, .int .u64 0, .int .u64 0, .int .u64 0, .int .u64 0, .int .i64 0, .int .i64 0, .int .i64 0, .int .u64 0, .int .i64 0, .int .i64 0, .int .u64 0, .int .u64 0] := Blk.new_at (by simp)
          have QGQA : wd.heap.size ≤ w2.heap.size + 1 := Nat.le_trans (Below.size (hb7)) (Nat.le_of_eq (by simp))
          have hb8 := Below.alloc (hb7) (Below.size (hb7)) (.cells #[.int .u8 0, .int .u64 0, .int .i64 0, .int .u64 0, .int .i64 0, .int .i64 0, .bool false, .int .u64 0, .int .u64 0, .int .u64 0, .int .u64 0, .int .u64 0, .int .u64 0, .int .u64 0, .int .u64 0, .int .u64 0, .int .i64 0, .int .i64 0, .int .i64 0, .int .u64 0, .int .i64 0, .int .i64 0, .int .u64 0, .int .u64 0] 32)
          refine hK.out _ _ (KE.out _ hb8) (fun hH8 => ?_)
          clear hK K hH
          have hH := hH8
          clear hH8
          try simp only [Act.put, List.getElem_toArray, List.getElem_cons_succ, List.getElem_cons_zero, List.setIfInBounds_toArray, List.set_cons_zero, List.set_cons_succ]
          refine wpAnyH_ready (rs := [6]) (by kernel_rfl) (by simp) ?_
          refine (AllReadyH.cons rfl (fun K hK => ?_) AllReadyH.nil)
          rw [if_pos (by rfl)]
          refine wp_store_blk 32 _ _ rfl (w2.heap.size + 1) (rowA cmdT 24 (ownC ka a)) _ rfl rfl 32 (QAb8) (by simp [rowA_size]) (by rw [rowA_size]; kernel_rfl) rowA_one ?_
          intro w9 hst9 hfr9
          have hb9 := Below.trans (hb8) (hfr9.below (Below.size (hb8)) (fun k hk e => by have := QGQA; omega))
          have QAb9 := hst9
          have QCb9 := Blk.fr (QCb8) hfr9 (by show ¬ (_ = _); first |assumption |exact Ne.symm (by assumption) |omega)
          refine hK.out _ _ (KE.out _ hb9) (fun hH9 => ?_)
          clear hK K hH
          have hH := hH9
          clear hH9
          try simp only [Act.put, List.getElem_toArray, List.getElem_cons_succ, List.getElem_cons_zero, List.setIfInBounds_toArray, List.set_cons_zero, List.set_cons_succ]
          refine wpAnyH_ready (rs := [7]) (by kernel_rfl) (by simp) ?_
          refine (AllReadyH.cons rfl (fun K hK => ?_) AllReadyH.nil)
          rw [if_pos (by rfl)]
          refine wp_store_blk 32 _ _ rfl (w2.heap.size) (rowA cmdT 24 (ownC kc c)) _ rfl rfl 32 (QCb9) (by simp [rowA_size]) (by rw [rowA_size]; kernel_rfl) rowA_one ?_
          intro w10 hst10 hfr10
          have hb10 := Below.trans (hb9) (hfr10.below (Below.size (hb9)) (fun k hk e => by have := QGQC; omega))
          have QCb10 := hst10
          have QAb10 := Blk.fr (QAb9) hfr10 (by show ¬ (_ = _); first |assumption |exact Ne.symm (by assumption) |omega)
          refine hK.out _ _ (KE.out _ hb10) (fun hH10 => ?_)
          clear hK K hH
          have hH := hH10
          clear hH10
          try simp only [Act.put, List.getElem_toArray, List.getElem_cons_succ, List.getElem_cons_zero, List.setIfInBounds_toArray, List.set_cons_zero, List.set_cons_succ]
          refine wpAnyH_done (by kernel_rfl) ?_ _
          refine NoPanic.normal ?_
          have p1 := QAb10
          have p2 := QCb10
          rw [zero_cmd, rowA_whole] at p1 p2
          have p3 := hl.out.next hb10
          go_wp2_with fail
          go_meet
          exact ⟨_, _, rfl, rfl, p1, p2, p3⟩
      · skip
        go_simp
        have QAb11 : Blk (w1.alloc (.cells #[.int .u8 0, .int .u64 0, .int .i64 0, .int .u64 0, .int .i64 0, .int .i64 0, .bool false, .int .u64 0, .int .u64 0, .int .u64 0, .int .u64 0, .int .u64 0, .int .u64 0, .int .u64 0, .int .u64 0, .int .u64 0, .int .i64 0, .int .i64 0, .int .i64 0, .int .u64 0, .int .i64 0, .int .i64 0, .int .u64 0, .int .u64 0] 32)) (w1.heap.size) 32 #[.int .u8 0, .int .u64 0, .int .i64 0, .int .u64 0, .int .i64 0, .int .i64 0, .bool false, .int .u64 0, .int .u64 0, .int .u64 0, .int .u64 0, .int .u64 0, .int .u64 0, .int .u64 0, .int .u64 0, .int .u64 0, .int .i64 0, .int .i64 0, .int .i64 0, .int .u64 0, .int .i64 0, .int .i64 0, .int .u64 0, .int .u64 0] := Blk.new_at (by simp)
        have QGQA : wd.heap.size ≤ w1.heap.size := Nat.le_trans (Below.size (hb1)) (Nat.le_of_eq (by simp))
        have hb11 := Below.alloc (hb1) (Below.size (hb1)) (.cells #[.int .u8 0, .int .u64 0, .int .i64 0, .int .u64 0, .int .i64 0, .int .i64 0, .bool false, .int .u64 0, .int .u64 0, .int .u64 0, .int .u64 0, .int .u64 0, .int .u64 0, .int .u64 0, .int .u64 0, .int .u64 0, .int .i64 0, .int .i64 0, .int .i64 0, .int .u64 0, .int .i64 0, .int .i64 0, .int .u64 0, .int .u64 0] 32)
        refine hK.out _ _ (KE.out _ hb11) (fun hH11 => ?_)
        clear hK K hH
        have hH := hH11
        clear hH11
        try simp only [Act.put, List.getElem_toArray, List.getElem_cons_succ, List.getElem_cons_zero, List.setIfInBounds_toArray, List.set_cons_zero, List.set_cons_succ]
        refine wpAnyH_ready (rs := [3, 5]) (by kernel_rfl) (by simp) ?_
        refine (AllReadyH.cons rfl (fun K hK => ?_) (AllReadyH.cons rfl (fun K hK => ?_) AllReadyH.nil))
        · skip
          go_simp
          with_reducible refine (cmd_own c _ kc HAC.out.2).mono ?_
          rintro e w12 ⟨rfl, hb12'⟩
          have hb12 : Below (wd.heap.size) wd w12 := below_next hH.2 hb12'
          try go_wp2_with fail
          have QAb12 := Blk.next QAb11 hb12'
          have QAc120 : World.cell? w12 ⟨w1.heap.size, 0, none⟩ = some (.int .u8 0) := Blk.get QAb12 0 rfl
          have QAf120 : World.frozen? w12 ⟨w1.heap.size, 0, none⟩ = false := Blk.frozen QAb12 0
          have QAc121 : World.cell? w12 ⟨w1.heap.size, 1, none⟩ = some (.int .u64 0) := Blk.get QAb12 1 rfl
          have QAf121 : World.frozen? w12 ⟨w1.heap.size, 1, none⟩ = false := Blk.frozen QAb12 1
          have QAc122 : World.cell? w12 ⟨w1.heap.size, 2, none⟩ = some (.int .i64 0) := Blk.get QAb12 2 rfl
          have QAf122 : World.frozen? w12 ⟨w1.heap.size, 2, none⟩ = false := Blk.frozen QAb12 2
          have QAc123 : World.cell? w12 ⟨w1.heap.size, 3, none⟩ = some (.int .u64 0) := Blk.get QAb12 3 rfl
          have QAf123 : World.frozen? w12 ⟨w1.heap.size, 3, none⟩ = false := Blk.frozen QAb12 3
          have QAc124 : World.cell? w12 ⟨w1.heap.size, 4, none⟩ = some (.int .i64 0) := Blk.get QAb12 4 rfl
          have QAf124 : World.frozen? w12 ⟨w1.heap.size, 4, none⟩ = false := Blk.frozen QAb12 4
          have QAc125 : World.cell? w12 ⟨w1.heap.size, 5, none⟩ = some (.int .i64 0) := Blk.get QAb12 5 rfl
          have QAf125 : World.frozen? w12 ⟨w1.heap.size, 5, none⟩ = false := Blk.frozen QAb12 5
          have QAc126 : World.cell? w12 ⟨w1.heap.size, 6, none⟩ = some (.bool false) := Blk.get QAb12 6 rfl
          have QAf126 : World.frozen? w12 ⟨w1.heap.size, 6, none⟩ = false := Blk.frozen QAb12 6
          have QAc127 : World.cell? w12 ⟨w1.heap.size, 7, none⟩ = some (.int .u64 0) := Blk.get QAb12 7 rfl
          have QAf127 : World.frozen? w12 ⟨w1.heap.size, 7, none⟩ = false := Blk.frozen QAb12 7
          have QAc128 : World.cell? w12 ⟨w1.heap.size, 8, none⟩ = some (.int .u64 0) := Blk.get QAb12 8 rfl
          have QAf128 : World.frozen? w12 ⟨w1.heap.size, 8, none⟩ = false := Blk.frozen QAb12 8
          have QAc129 : World.cell? w12 ⟨w1.heap.size, 9, none⟩ = some (.int .u64 0) := Blk.get QAb12 9 rfl
          have QAf129 : World.frozen? w12 ⟨w1.heap.size, 9, none⟩ = false := Blk.frozen QAb12 9
          have QAc1210 : World.cell? w12 ⟨w1.heap.size, 10, none⟩ = some (.int .u64 0) := Blk.get QAb12 10 rfl
          have QAf1210 : World.frozen? w12 ⟨w1.heap.size, 10, none⟩ = false := Blk.frozen QAb12 10
          have QAc1211 : World.cell? w12 ⟨w1.heap.size, 11, none⟩ = some (.int .u64 0) := Blk.get QAb12 11 rfl
          have QAf1211 : World.frozen? w12 ⟨w1.heap.size, 11, none⟩ = false := Blk.frozen QAb12 11
          have QAc1212 : World.cell? w12 ⟨w1.heap.size, 12, none⟩ = some (.int .u64 0) := Blk.get QAb12 12 rfl
          have QAf1212 : World.frozen? w12 ⟨w1.heap.size, 12, none⟩ = false := Blk.frozen QAb12 12
          have QAc1213 : World.cell? w12 ⟨w1.heap.size, 13, none⟩ = some (.int .u64 0) := Blk.get QAb12 13 rfl
          have QAf1213 : World.frozen? w12 ⟨w1.heap.size, 13, none⟩ = false := Blk.frozen QAb12 13
          have QAc1214 : World.cell? w12 ⟨w1.heap.size, 14, none⟩ = some (.int .u64 0) := Blk.get QAb12 14 rfl
          have QAf1214 : World.frozen? w12 ⟨w1.heap.size, 14, none⟩ = false := Blk.frozen QAb12 14
          have QAc1215 : World.cell? w12 ⟨w1.heap.size, 15, none⟩ = some (.int .u64 0) := Blk.get QAb12 15 rfl
          have QAf1215 : World.frozen? w12 ⟨w1.heap.size, 15, none⟩ = false := Blk.frozen QAb12 15
          have QAc1216 : World.cell? w12 ⟨w1.heap.size, 16, none⟩ = some (.int .i64 0) := Blk.get QAb12 16 rfl
          have QAf1216 : World.frozen? w12 ⟨w1.heap.size, 16, none⟩ = false := Blk.frozen QAb12 16
          have QAc1217 : World.cell? w12 ⟨w1.heap.size, 17, none⟩ = some (.int .i64 0) := Blk.get QAb12 17 rfl
          have QAf1217 : World.frozen? w12 ⟨w1.heap.size, 17, none⟩ = false := Blk.frozen QAb12 17
          have QAc1218 : World.cell? w12 ⟨w1.heap.size, 18, none⟩ = some (.int .i64 0) := Blk.get QAb12 18 rfl
          have QAf1218 : World.frozen? w12 ⟨w1.heap.size, 18, none⟩ = false := Blk.frozen QAb12 18
          have QAc1219 : World.cell? w12 ⟨w1.heap.size, 19, none⟩ = some (.int .u64 0) := Blk.get QAb12 19 rfl
          have QAf1219 : World.frozen? w12 ⟨w1.heap.size, 19, none⟩ = false := Blk.frozen QAb12 19
          have QAc1220 : World.cell? w12 ⟨w1.heap.size, 20, none⟩ = some (.int .i64 0) := Blk.get QAb12 20 rfl
          have QAf1220 : World.frozen? w12 ⟨w1.heap.size, 20, none⟩ = false := Blk.frozen QAb12 20
          have QAc1221 : World.cell? w12 ⟨w1.heap.size, 21, none⟩ = some (.int .i64 0) := Blk.get QAb12 21 rfl
          have QAf1221 : World.frozen? w12 ⟨w1.heap.size, 21, none⟩ = false := Blk.frozen QAb12 21
          have QAc1222 : World.cell? w12 ⟨w1.heap.size, 22, none⟩ = some (.int .u64 0) := Blk.get QAb12 22 rfl
          have QAf1222 : World.frozen? w12 ⟨w1.heap.size, 22, none⟩ = false := Blk.frozen QAb12 22
          have QAc1223 : World.cell? w12 ⟨w1.heap.size, 23, none⟩ = some (.int .u64 0) := Blk.get QAb12 23 rfl
          have QAf1223 : World.frozen? w12 ⟨w1.heap.size, 23, none⟩ = false := Blk.frozen QAb12 23
          have QAn12 := Blk.lt QAb12
          refine hK.out _ _ (KE.out _ hb12) (fun hH12 => ?_)
          clear hK K hH
          have hH := hH12
          clear hH12
          try simp only [Act.put, List.getElem_toArray, List.getElem_cons_succ, List.getElem_cons_zero, List.setIfInBounds_toArray, List.set_cons_zero, List.set_cons_succ]
          refine wpAnyH_ready (rs := [5]) (by kernel_rfl) (by simp) ?_
          refine (AllReadyH.cons rfl (fun K hK => ?_) AllReadyH.nil)
          go_simp
          have NEQAQC13 : w1.heap.size ≠ w12.heap.size := Nat.ne_of_lt (Nat.lt_of_lt_of_eq (Blk.lt QAb12) (by simp))
          have QAb13 := Blk.alloc QAb12 (.cells #[.int .u8 0, .int .u64 0, .int .i64 0, .int .u64 0, .int .i64 0, .int .i64 0, .bool false, .int .u64 0, .int .u64 0, .int .u64 0, .int .u64 0, .int .u64 0, .int .u64 0, .int .u64 0, .int .u64 0, .int .u64 0, .int .i64 0, .int .i64 0, .int .i64 0, .int .u64 0, .int .i64 0, .int .i64 0, .int .u64 0, .int .u64 0] 32)
          have QCb13 : Blk (w12.alloc (.cells #[.int .u8 0, .int .u64 0, .int .i64 0, .int .u64 0, .int .i64 0, .int .i64 0, .bool false, .int .u64 0, .int .u64 0, .int .u64 0, .int .u64 0, .int .u64 0, .int .u64 0, .int .u64 0, .int .u64 0, .int .u64 0, .int .i64 0, .int .i64 0, .int .i64 0, .int .u64 0, .int .i64 0, .int .i64 0, .int .u64 0, .int .u64 0] 32)) (w12.heap.size) 32 #[.int .u8 0, .int .u64 0, .int .i64 0, .int .u64 0, .int .i64 0, .int .i64 0, .bool false, .int .u64 0, .int .u64 0, .int .u64 0, .int .u64 0, .int .u64 0, .int .u64 0, .int .u64 0, .int .u64 0, .int .u64 0, .int .i64 0, .int .i64 0, .int .i64 0, .int .u64 0, .int .i64 0, .int .i64 0, .int .u64 0, .int .u64 0] := Blk.new_at (by simp)
          have QGQC : wd.heap.size ≤ w12.heap.size := Nat.le_trans (Below.size (hb12)) (Nat.le_of_eq (by simp))
          have hb13 := Below.alloc (hb12) (Below.size (hb12)) (.cells #[.int .u8 0, .int .u64 0, .int .i64 0, .int .u64 0, .int .i64 0, .int .i64 0, .bool false, .int .u64 0, .int .u64 0, .int .u64 0, .int .u64 0, .int .u64 0, .int .u64 0, .int .u64 0, .int .u64 0, .int .u64 0, .int .i64 0, .int .i64 0, .int .i64 0, .int .u64 0, .int .i64 0, .int .i64 0, .int .u64 0, .int .u64 0] 32)
          refine hK.out _ _ (KE.out _ hb13) (fun hH13 => ?_)
          clear hK K hH
          have hH := hH13
          clear hH13
          try simp only [Act.put, List.getElem_toArray, List.getElem_cons_succ, List.getElem_cons_zero, List.setIfInBounds_toArray, List.set_cons_zero, List.set_cons_succ]
          refine wpAnyH_ready (rs := [6]) (by kernel_rfl) (by simp) ?_
          refine (AllReadyH.cons rfl (fun K hK => ?_) AllReadyH.nil)
          rw [if_pos (by rfl)]
          refine wp_store_blk 32 _ _ rfl (w1.heap.size) (rowA cmdT 24 (ownC ka a)) _ rfl rfl 32 (QAb13) (by simp [rowA_size]) (by rw [rowA_size]; kernel_rfl) rowA_one ?_
          intro w14 hst14 hfr14
          have hb14 := Below.trans (hb13) (hfr14.below (Below.size (hb13)) (fun k hk e => by have := QGQA; omega))
          have QAb14 := hst14
          have QCb14 := Blk.fr (QCb13) hfr14 (by show ¬ (_ = _); first |assumption |exact Ne.symm (by assumption) |omega)
          refine hK.out _ _ (KE.out _ hb14) (fun hH14 => ?_)
          clear hK K hH
          have hH := hH14
          clear hH14
          try simp only [Act.put, List.getElem_toArray, List.getElem_cons_succ, List.getElem_cons_zero, List.setIfInBounds_toArray, List.set_cons_zero, List.set_cons_succ]
          refine wpAnyH_ready (rs := [7]) (by kernel_rfl) (by simp) ?_
          refine (AllReadyH.cons rfl (fun K hK => ?_) AllReadyH.nil)
          rw [if_pos (by rfl)]
          refine wp_store_blk 32 _ _ rfl (w12.heap.size) (rowA cmdT 24 (ownC kc c)) _ rfl rfl 32 (QCb14) (by simp [rowA_size]) (by rw [rowA_size]; kernel_rfl) rowA_one ?_
          intro w15 hst15 hfr15
          have hb15 := Below.trans (hb14) (hfr15.below (Below.size (hb14)) (fun k hk e => by have := QGQC; omega))
          have QCb15 := hst15
          have QAb15 := Blk.fr (QAb14) hfr15 (by show ¬ (_ = _); first |assumption |exact Ne.symm (by assumption) |omega)
          refine hK.out _ _ (KE.out _ hb15) (fun hH15 => ?_)
          clear hK K hH
          have hH := hH15
          clear hH15
          try simp only [Act.put, List.getElem_toArray, List.getElem_cons_succ, List.getElem_cons_zero, List.setIfInBounds_toArray, List.set_cons_zero, List.set_cons_succ]
          refine wpAnyH_done (by kernel_rfl) ?_ _
          refine NoPanic.normal ?_
          have p1 := QAb15
          have p2 := QCb15
          rw [zero_cmd, rowA_whole] at p1 p2
          have p3 := hl.out.next hb15
          go_wp2_with fail
          go_meet
          exact ⟨_, _, rfl, rfl, p1, p2, p3⟩
        · skip
          go_simp
          have NEQAQC16 : w1.heap.size ≠ w1.heap.size + 1 := Nat.ne_of_lt (Nat.lt_of_lt_of_eq (Blk.lt QAb11) (by simp))
          have QAb16 := Blk.alloc QAb11 (.cells #[.int .u8 0, .int .u64 0, .int .i64 0, .int .u64 0, .int .i64 0, .int .i64 0, .bool false, .int .u64 0, .int .u64 0, .int .u64 0, .int .u64 0, .int .u64 0, .int .u64 0, .int .u64 0, .int .u64 0, .int .u64 0, .int .i64 0, .int .i64 0, .int .i64 0, .int .u64 0, .int .i64 0, .int .i64 0, .int .u64 0, .int .u64 0] 32)
          have QCb16 : Blk ((w1.alloc (.cells #[.int .u8 0, .int .u64 0, .int .i64 0, .int .u64 0, .int .i64 0, .int .i64 0, .bool false, .int .u64 0, .int .u64 0, .int .u64 0, .int .u64 0, .int .u64 0, .int .u64 0, .int .u64 0, .int .u64 0, .int .u64 0, .int .i64 0, .int .i64 0, .int .i64 0, .int .u64 0, .int .i64 0, .int .i64 0, .int .u64 0, .int .u64 0] 32)).alloc (.cells #[.int .u8 0, .int .u64 0, .int .i64 0, .int .u64 0, .int .i64 0, .int .i64 0, .bool false, .int .u64 0, .int .u64 0, .int .u64 0, .int .u64 0, .int .u64 0, .int .u64 0, .int .u64 0, .int .u64 0, .int .u64 0, .int .i64 0, .int .i64 0, .int .i64 0, .int .u64 0, .int .i64 0, .int .i64 0, .int .u64 0, .int .u64 0] 32)) (w1.heap.size + 1) 32 #[.int .u8 0, .int .u64 0, .int .i64 0, .int .u64 0, .int .i64 0, .int .i64 0, .bool false, .int .u64 0, .int .u64 0, .int .u64 0, .int .u64 0, .int .u64 0, .int .u64 0, .int .u64 0, .int .u64 0, .int .u64 0, .int .i64 0, .int .i64 0, .int .i64 0, .int .u64 0, .int .i64 0, .int .i64 0, .int .u64 0, .int .u64 0] := Blk.new_at (by simp)
          have QGQC : wd.heap.size ≤ w1.heap.size + 1 := Nat.le_trans (Below.size (hb11)) (Nat.le_of_eq (by simp))
          have hb16 := Below.alloc (hb11) (Below.size (hb11)) (.cells #[.int .u8 0, .int .u64 0, .int .i64 0, .int .u64 0, .int .i64 0, .int .i64 0, .bool false, .int .u64 0, .int .u64 0, .int .u64 0, .int .u64 0, .int .u64 0, .int .u64 0, .int .u64 0, .int .u64 0, .int .u64 0, .int .i64 0, .int .i64 0, .int .i64 0, .int .u64 0, .int .i64 0, .int .i64 0, .int .u64 0, .int .u64 0] 32)
          refine hK.out _ _ (KE.out _ hb16) (fun hH16 => ?_)
          clear hK K hH
          have hH := hH16
          clear hH16
          try simp only [Act.put, List.getElem_toArray, List.getElem_cons_succ, List.getElem_cons_zero, List.setIfInBounds_toArray, List.set_cons_zero, List.set_cons_succ]
          refine wpAnyH_ready (rs := [3]) (by kernel_rfl) (by simp) ?_
          refine (AllReadyH.cons rfl (fun K hK => ?_) AllReadyH.nil)
          go_simp
          with_reducible refine (cmd_own c _ kc HAC.out.2).mono ?_
          rintro e w17 ⟨rfl, hb17'⟩
          have hb17 : Below (wd.heap.size) wd w17 := below_next hH.2 hb17'
          try go_wp2_with fail
          have QAb17 := Blk.next QAb16 hb17'
          have QAc170 : World.cell? w17 ⟨w1.heap.size, 0, none⟩ = some (.int .u8 0) := Blk.get QAb17 0 rfl
          have QAf170 : World.frozen? w17 ⟨w1.heap.size, 0, none⟩ = false := Blk.frozen QAb17 0
          have QAc171 : World.cell? w17 ⟨w1.heap.size, 1, none⟩ = some (.int .u64 0) := Blk.get QAb17 1 rfl
          have QAf171 : World.frozen? w17 ⟨w1.heap.size, 1, none⟩ = false := Blk.frozen QAb17 1
          have QAc172 : World.cell? w17 ⟨w1.heap.size, 2, none⟩ = some (.int .i64 0) := Blk.get QAb17 2 rfl
          have QAf172 : World.frozen? w17 ⟨w1.heap.size, 2, none⟩ = false := Blk.frozen QAb17 2
          have QAc173 : World.cell? w17 ⟨w1.heap.size, 3, none⟩ = some (.int .u64 0) := Blk.get QAb17 3 rfl
          have QAf173 : World.frozen? w17 ⟨w1.heap.size, 3, none⟩ = false := Blk.frozen QAb17 3
          have QAc174 : World.cell? w17 ⟨w1.heap.size, 4, none⟩ = some (.int .i64 0) := Blk.get QAb17 4 rfl
          have QAf174 : World.frozen? w17 ⟨w1.heap.size, 4, none⟩ = false := Blk.frozen QAb17 4
          have QAc175 : World.cell? w17 ⟨w1.heap.size, 5, none⟩ = some (.int .i64 0) := Blk.get QAb17 5 rfl
          have QAf175 : World.frozen? w17 ⟨w1.heap.size, 5, none⟩ = false := Blk.frozen QAb17 5
          have QAc176 : World.cell? w17 ⟨w1.heap.size, 6, none⟩ = some (.bool false) := Blk.get QAb17 6 rfl
          have QAf176 : World.frozen? w17 ⟨w1.heap.size, 6, none⟩ = false := Blk.frozen QAb17 6
          have QAc177 : World.cell? w17 ⟨w1.heap.size, 7, none⟩ = some (.int .u64 0) := Blk.get QAb17 7 rfl
          have QAf177 : World.frozen? w17 ⟨w1.heap.size, 7, none⟩ = false := Blk.frozen QAb17 7
          have QAc178 : World.cell? w17 ⟨w1.heap.size, 8, none⟩ = some (.int .u64 0) := Blk.get QAb17 8 rfl
          have QAf178 : World.frozen? w17 ⟨w1.heap.size, 8, none⟩ = false := Blk.frozen QAb17 8
          have QAc179 : World.cell? w17 ⟨w1.heap.size, 9, none⟩ = some (.int .u64 0) := Blk.get QAb17 9 rfl
          have QAf179 : World.frozen? w17 ⟨w1.heap.size, 9, none⟩ = false := Blk.frozen QAb17 9
          have QAc1710 : World.cell? w17 ⟨w1.heap.size, 10, none⟩ = some (.int .u64 0) := Blk.get QAb17 10 rfl
          have QAf1710 : World.frozen? w17 ⟨w1.heap.size, 10, none⟩ = false := Blk.frozen QAb17 10
          have QAc1711 : World.cell? w17 ⟨w1.heap.size, 11, none⟩ = some (.int .u64 0) := Blk.get QAb17 11 rfl
          have QAf1711 : World.frozen? w17 ⟨w1.heap.size, 11, none⟩ = false := Blk.frozen QAb17 11
          have QAc1712 : World.cell? w17 ⟨w1.heap.size, 12, none⟩ = some (.int .u64 0) := Blk.get QAb17 12 rfl
          have QAf1712 : World.frozen? w17 ⟨w1.heap.size, 12, none⟩ = false := Blk.frozen QAb17 12
          have QAc1713 : World.cell? w17 ⟨w1.heap.size, 13, none⟩ = some (.int .u64 0) := Blk.get QAb17 13 rfl
          have QAf1713 : World.frozen? w17 ⟨w1.heap.size, 13, none⟩ = false := Blk.frozen QAb17 13
          have QAc1714 : World.cell? w17 ⟨w1.heap.size, 14, none⟩ = some (.int .u64 0) := Blk.get QAb17 14 rfl
          have QAf1714 : World.frozen? w17 ⟨w1.heap.size, 14, none⟩ = false := Blk.frozen QAb17 14
          have QAc1715 : World.cell? w17 ⟨w1.heap.size, 15, none⟩ = some (.int .u64 0) := Blk.get QAb17 15 rfl
          have QAf1715 : World.frozen? w17 ⟨w1.heap.size, 15, none⟩ = false := Blk.frozen QAb17 15
          have QAc1716 : World.cell? w17 ⟨w1.heap.size, 16, none⟩ = some (.int .i64 0) := Blk.get QAb17 16 rfl
          have QAf1716 : World.frozen? w17 ⟨w1.heap.size, 16, none⟩ = false := Blk.frozen QAb17 16
          have QAc1717 : World.cell? w17 ⟨w1.heap.size, 17, none⟩ = some (.int .i64 0) := Blk.get QAb17 17 rfl
          have QAf1717 : World.frozen? w17 ⟨w1.heap.size, 17, none⟩ = false := Blk.frozen QAb17 17
          have QAc1718 : World.cell? w17 ⟨w1.heap.size, 18, none⟩ = some (.int .i64 0) := Blk.get QAb17 18 rfl
          have QAf1718 : World.frozen? w17 ⟨w1.heap.size, 18, none⟩ = false := Blk.frozen QAb17 18
          have QAc1719 : World.cell? w17 ⟨w1.heap.size, 19, none⟩ = some (.int .u64 0) := Blk.get QAb17 19 rfl
          have QAf1719 : World.frozen? w17 ⟨w1.heap.size, 19, none⟩ = false := Blk.frozen QAb17 19
          have QAc1720 : World.cell? w17 ⟨w1.heap.size, 20, none⟩ = some (.int .i64 0) := Blk.get QAb17 20 rfl
          have QAf1720 : World.frozen? w17 ⟨w1.heap.size, 20, none⟩ = false := Blk.frozen QAb17 20
          have QAc1721 : World.cell? w17 ⟨w1.heap.size, 21, none⟩ = some (.int .i64 0) := Blk.get QAb17 21 rfl
          have QAf1721 : World.frozen? w17 ⟨w1.heap.size, 21, none⟩ = false := Blk.frozen QAb17 21
          have QAc1722 : World.cell? w17 ⟨w1.heap.size, 22, none⟩ = some (.int .u64 0) := Blk.get QAb17 22 rfl
          have QAf1722 : World.frozen? w17 ⟨w1.heap.size, 22, none⟩ = false := Blk.frozen QAb17 22
          have QAc1723 : World.cell? w17 ⟨w1.heap.size, 23, none⟩ = some (.int .u64 0) := Blk.get QAb17 23 rfl
          have QAf1723 : World.frozen? w17 ⟨w1.heap.size, 23, none⟩ = false := Blk.frozen QAb17 23
          have QAn17 := Blk.lt QAb17
          have QCb17 := Blk.next QCb16 hb17'
          have QCc170 : World.cell? w17 ⟨w1.heap.size + 1, 0, none⟩ = some (.int .u8 0) := Blk.get QCb17 0 rfl
          have QCf170 : World.frozen? w17 ⟨w1.heap.size + 1, 0, none⟩ = false := Blk.frozen QCb17 0
          have QCc171 : World.cell? w17 ⟨w1.heap.size + 1, 1, none⟩ = some (.int .u64 0) := Blk.get QCb17 1 rfl
          have QCf171 : World.frozen? w17 ⟨w1.heap.size + 1, 1, none⟩ = false := Blk.frozen QCb17 1
          have QCc172 : World.cell? w17 ⟨w1.heap.size + 1, 2, none⟩ = some (.int .i64 0) := Blk.get QCb17 2 rfl
          have QCf172 : World.frozen? w17 ⟨w1.heap.size + 1, 2, none⟩ = false := Blk.frozen QCb17 2
          have QCc173 : World.cell? w17 ⟨w1.heap.size + 1, 3, none⟩ = some (.int .u64 0) := Blk.get QCb17 3 rfl
          have QCf173 : World.frozen? w17 ⟨w1.heap.size + 1, 3, none⟩ = false := Blk.frozen QCb17 3
          have QCc174 : World.cell? w17 ⟨w1.heap.size + 1, 4, none⟩ = some (.int .i64 0) := Blk.get QCb17 4 rfl
          have QCf174 : World.frozen? w17 ⟨w1.heap.size + 1, 4, none⟩ = false := Blk.frozen QCb17 4
          have QCc175 : World.cell? w17 ⟨w1.heap.size + 1, 5, none⟩ = some (.int .i64 0) := Blk.get QCb17 5 rfl
          have QCf175 : World.frozen? w17 ⟨w1.heap.size + 1, 5, none⟩ = false := Blk.frozen QCb17 5
          have QCc176 : World.cell? w17 ⟨w1.heap.size + 1, 6, none⟩ = some (.bool false) := Blk.get QCb17 6 rfl
          have QCf176 : World.frozen? w17 ⟨w1.heap.size + 1, 6, none⟩ = false := Blk.frozen QCb17 6
          have QCc177 : World.cell? w17 ⟨w1.heap.size + 1, 7, none⟩ = some (.int .u64 0) := Blk.get QCb17 7 rfl
          have QCf177 : World.frozen? w17 ⟨w1.heap.size + 1, 7, none⟩ = false := Blk.frozen QCb17 7
          have QCc178 : World.cell? w17 ⟨w1.heap.size + 1, 8, none⟩ = some (.int .u64 0) := Blk.get QCb17 8 rfl
          have QCf178 : World.frozen? w17 ⟨w1.heap.size + 1, 8, none⟩ = false := Blk.frozen QCb17 8
          have QCc179 : World.cell? w17 ⟨w1.heap.size + 1, 9, none⟩ = some (.int .u64 0) := Blk.get QCb17 9 rfl
          have QCf179 : World.frozen? w17 ⟨w1.heap.size + 1, 9, none⟩ = false := Blk.frozen QCb17 9
          have QCc1710 : World.cell? w17 ⟨w1.heap.size + 1, 10, none⟩ = some (.int .u64 0) := Blk.get QCb17 10 rfl
          have QCf1710 : World.frozen? w17 ⟨w1.heap.size + 1, 10, none⟩ = false := Blk.frozen QCb17 10
          have QCc1711 : World.cell? w17 ⟨w1.heap.size + 1, 11, none⟩ = some (.int .u64 0) := Blk.get QCb17 11 rfl
          have QCf1711 : World.frozen? w17 ⟨w1.heap.size + 1, 11, none⟩ = false := Blk.frozen QCb17 11
          have QCc1712 : World.cell? w17 ⟨w1.heap.size + 1, 12, none⟩ = some (.int .u64 0) := Blk.get QCb17 12 rfl
          have QCf1712 : World.frozen? w17 ⟨w1.heap.size + 1, 12, none⟩ = false := Blk.frozen QCb17 12
          have QCc1713 : World.cell? w17 ⟨w1.heap.size + 1, 13, none⟩ = some (.int .u64 0) := Blk.get QCb17 13 rfl
          have QCf1713 : World.frozen? w17 ⟨w1.heap.size + 1, 13, none⟩ = false := Blk.frozen QCb17 13
          have QCc1714 : World.cell? w17 ⟨w1.heap.size + 1, 14, none⟩ = some (.int .u64 0) := Blk.get QCb17 14 rfl
          have QCf1714 : World.frozen? w17 ⟨w1.heap.size + 1, 14, none⟩ = false := Blk.frozen QCb17 14
          have QCc1715 : World.cell? w17 ⟨w1.heap.size + 1, 15, none⟩ = some (.int .u64 0) := Blk.get QCb17 15 rfl
          have QCf1715 : World.frozen? w17 ⟨w1.heap.size + 1, 15, none⟩ = false := Blk.frozen QCb17 15
          have QCc1716 : World.cell? w17 ⟨w1.heap.size + 1, 16, none⟩ = some (.int .i64 0) := Blk.get QCb17 16 rfl
          have QCf1716 : World.frozen? w17 ⟨w1.heap.size + 1, 16, none⟩ = false := Blk.frozen QCb17 16
          have QCc1717 : World.cell? w17 ⟨w1.heap.size + 1, 17, none⟩ = some (.int .i64 0) := Blk.get QCb17 17 rfl
          have QCf1717 : World.frozen? w17 ⟨w1.heap.size + 1, 17, none⟩ = false := Blk.frozen QCb17 17
          have QCc1718 : World.cell? w17 ⟨w1.heap.size + 1, 18, none⟩ = some (.int .i64 0) := Blk.get QCb17 18 rfl
          have QCf1718 : World.frozen? w17 ⟨w1.heap.size + 1, 18, none⟩ = false := Blk.frozen QCb17 18
          have QCc1719 : World.cell? w17 ⟨w1.heap.size + 1, 19, none⟩ = some (.int .u64 0) := Blk.get QCb17 19 rfl
          have QCf1719 : World.frozen? w17 ⟨w1.heap.size + 1, 19, none⟩ = false := Blk.frozen QCb17 19
          have QCc1720 : World.cell? w17 ⟨w1.heap.size + 1, 20, none⟩ = some (.int .i64 0) := Blk.get QCb17 20 rfl
          have QCf1720 : World.frozen? w17 ⟨w1.heap.size + 1, 20, none⟩ = false := Blk.frozen QCb17 20
          have QCc1721 : World.cell? w17 ⟨w1.heap.size + 1, 21, none⟩ = some (.int .i64 0) := Blk.get QCb17 21 rfl
          have QCf1721 : World.frozen? w17 ⟨w1.heap.size + 1, 21, none⟩ = false := Blk.frozen QCb17 21
          have QCc1722 : World.cell? w17 ⟨w1.heap.size + 1, 22, none⟩ = some (.int .u64 0) := Blk.get QCb17 22 rfl
          have QCf1722 : World.frozen? w17 ⟨w1.heap.size + 1, 22, none⟩ = false := Blk.frozen QCb17 22
          have QCc1723 : World.cell? w17 ⟨w1.heap.size + 1, 23, none⟩ = some (.int .u64 0) := Blk.get QCb17 23 rfl
          have QCf1723 : World.frozen? w17 ⟨w1.heap.size + 1, 23, none⟩ = false := Blk.frozen QCb17 23
          have QCn17 := Blk.lt QCb17
          refine hK.out _ _ (KE.out _ hb17) (fun hH17 => ?_)
          clear hK K hH
          have hH := hH17
          clear hH17
          try simp only [Act.put, List.getElem_toArray, List.getElem_cons_succ, List.getElem_cons_zero, List.setIfInBounds_toArray, List.set_cons_zero, List.set_cons_succ]
          refine wpAnyH_ready (rs := [6]) (by kernel_rfl) (by simp) ?_
          refine (AllReadyH.cons rfl (fun K hK => ?_) AllReadyH.nil)
          rw [if_pos (by rfl)]
          refine wp_store_blk 32 _ _ rfl (w1.heap.size) (rowA cmdT 24 (ownC ka a)) _ rfl rfl 32 (QAb17) (by simp [rowA_size]) (by rw [rowA_size]; kernel_rfl) rowA_one ?_
          intro w18 hst18 hfr18
          have hb18 := Below.trans (hb17) (hfr18.below (Below.size (hb17)) (fun k hk e => by have := QGQA; omega))
          have QAb18 := hst18
          have QCb18 := Blk.fr (QCb17) hfr18 (by show ¬ (_ = _); first |assumption |exact Ne.symm (by assumption) |omega)
          refine hK.out _ _ (KE.out _ hb18) (fun hH18 => ?_)
          clear hK K hH
          have hH := hH18
          clear hH18
          try simp only [Act.put, List.getElem_toArray, List.getElem_cons_succ, List.getElem_cons_zero, List.setIfInBounds_toArray, List.set_cons_zero, List.set_cons_succ]
          refine wpAnyH_ready (rs := [7]) (by kernel_rfl) (by simp) ?_
          refine (AllReadyH.cons rfl (fun K hK => ?_) AllReadyH.nil)
          rw [if_pos (by rfl)]
          refine wp_store_blk 32 _ _ rfl (w1.heap.size + 1) (rowA cmdT 24 (ownC kc c)) _ rfl rfl 32 (QCb18) (by simp [rowA_size]) (by rw [rowA_size]; kernel_rfl) rowA_one ?_
          intro w19 hst19 hfr19
          have hb19 := Below.trans (hb18) (hfr19.below (Below.size (hb18)) (fun k hk e => by have := QGQC; omega))
          have QCb19 := hst19
          have QAb19 := Blk.fr (QAb18) hfr19 (by show ¬ (_ = _); first |assumption |exact Ne.symm (by assumption) |omega)
          refine hK.out _ _ (KE.out _ hb19) (fun hH19 => ?_)
          clear hK K hH
          have hH := hH19
          clear hH19
          try simp only [Act.put, List.getElem_toArray, List.getElem_cons_succ, List.getElem_cons_zero, List.setIfInBounds_toArray, List.set_cons_zero, List.set_cons_succ]
          refine wpAnyH_done (by kernel_rfl) ?_ _
          refine NoPanic.normal ?_
          have p1 := QAb19
          have p2 := QCb19
          rw [zero_cmd, rowA_whole] at p1 p2
          have p3 := hl.out.next hb19
          go_wp2_with fail
          go_meet
          exact ⟨_, _, rfl, rfl, p1, p2, p3⟩
      · skip
        go_simp
        have QCb20 : Blk (w1.alloc (.cells #[.int .u8 0, .int .u64 0, .int .i64 0, .int .u64 0, .int .i64 0, .int .i64 0, .bool false, .int .u64 0, .int .u64 0, .int .u64 0, .int .u64 0, .int .u64 0, .int .u64 0, .int .u64 0, .int .u64 0, .int .u64 0, .int .i64 0, .int .i64 0, .int .i64 0, .int .u64 0, .int .i64 0, .int .i64 0, .int .u64 0, .int .u64 0] 32)) (w1.heap.size) 32 #[.int .u8 0, .int .u64 0, .int .i64 0, .int .u64 0, .int .i64 0, .int .i64 0, .bool false, .int .u64 0, .int .u64 0, .int .u64 0, .int .u64 0, .int .u64 0, .int .u64 0, .int .u64 0, .int .u64 0, .int .u64 0, .int .i64 0, .int .i64 0, .int .i64 0, .int .u64 0, .int .i64 0, .int .i64 0, .int .u64 0, .int .u64 0] := Blk.new_at (by simp)
        have QGQC : wd.heap.size ≤ w1.heap.size := Nat.le_trans (Below.size (hb1)) (Nat.le_of_eq (by simp))
        have hb20 := Below.alloc (hb1) (Below.size (hb1)) (.cells #[.int .u8 0, .int .u64 0, .int .i64 0, .int .u64 0, .int .i64 0, .int .i64 0, .bool false, .int .u64 0, .int .u64 0, .int .u64 0, .int .u64 0, .int .u64 0, .int .u64 0, .int .u64 0, .int .u64 0, .int .u64 0, .int .i64 0, .int .i64 0, .int .i64 0, .int .u64 0, .int .i64 0, .int .i64 0, .int .u64 0, .int .u64 0] 32)
        refine hK.out _ _ (KE.out _ hb20) (fun hH20 => ?_)
        clear hK K hH
        have hH := hH20
        clear hH20
        try simp only [Act.put, List.getElem_toArray, List.getElem_cons_succ, List.getElem_cons_zero, List.setIfInBounds_toArray, List.set_cons_zero, List.set_cons_succ]
        refine wpAnyH_ready (rs := [3, 4]) (by kernel_rfl) (by simp) ?_
        refine (AllReadyH.cons rfl (fun K hK => ?_) (AllReadyH.cons rfl (fun K hK => ?_) AllReadyH.nil))
        · skip
          go_simp
          with_reducible refine (cmd_own c _ kc HAC.out.2).mono ?_
          rintro e w21 ⟨rfl, hb21'⟩
          have hb21 : Below (wd.heap.size) wd w21 := below_next hH.2 hb21'
          try go_wp2_with fail
          have QCb21 := Blk.next QCb20 hb21'
          have QCc210 : World.cell? w21 ⟨w1.heap.size, 0, none⟩ = some (.int .u8 0) := Blk.get QCb21 0 rfl
          have QCf210 : World.frozen? w21 ⟨w1.heap.size, 0, none⟩ = false := Blk.frozen QCb21 0
          have QCc211 : World.cell? w21 ⟨w1.heap.size, 1, none⟩ = some (.int .u64 0) := Blk.get QCb21 1 rfl
          have QCf211 : World.frozen? w21 ⟨w1.heap.size, 1, none⟩ = false := Blk.frozen QCb21 1
          have QCc212 : World.cell? w21 ⟨w1.heap.size, 2, none⟩ = some (.int .i64 0) := Blk.get QCb21 2 rfl
          have QCf212 : World.frozen? w21 ⟨w1.heap.size, 2, none⟩ = false := Blk.frozen QCb21 2
          have QCc213 : World.cell? w21 ⟨w1.heap.size, 3, none⟩ = some (.int .u64 0) := Blk.get QCb21 3 rfl
          have QCf213 : World.frozen? w21 ⟨w1.heap.size, 3, none⟩ = false := Blk.frozen QCb21 3
          have QCc214 : World.cell? w21 ⟨w1.heap.size, 4, none⟩ = some (.int .i64 0) := Blk.get QCb21 4 rfl
          have QCf214 : World.frozen? w21 ⟨w1.heap.size, 4, none⟩ = false := Blk.frozen QCb21 4
          have QCc215 : World.cell? w21 ⟨w1.heap.size, 5, none⟩ = some (.int .i64 0) := Blk.get QCb21 5 rfl
          have QCf215 : World.frozen? w21 ⟨w1.heap.size, 5, none⟩ = false := Blk.frozen QCb21 5
          have QCc216 : World.cell? w21 ⟨w1.heap.size, 6, none⟩ = some (.bool false) := Blk.get QCb21 6 rfl
          have QCf216 : World.frozen? w21 ⟨w1.heap.size, 6, none⟩ = false := Blk.frozen QCb21 6
          have QCc217 : World.cell? w21 ⟨w1.heap.size, 7, none⟩ = some (.int .u64 0) := Blk.get QCb21 7 rfl
          have QCf217 : World.frozen? w21 ⟨w1.heap.size, 7, none⟩ = false := Blk.frozen QCb21 7
          have QCc218 : World.cell? w21 ⟨w1.heap.size, 8, none⟩ = some (.int .u64 0) := Blk.get QCb21 8 rfl
          have QCf218 : World.frozen? w21 ⟨w1.heap.size, 8, none⟩ = false := Blk.frozen QCb21 8
          have QCc219 : World.cell? w21 ⟨w1.heap.size, 9, none⟩ = some (.int .u64 0) := Blk.get QCb21 9 rfl
          have QCf219 : World.frozen? w21 ⟨w1.heap.size, 9, none⟩ = false := Blk.frozen QCb21 9
          have QCc2110 : World.cell? w21 ⟨w1.heap.size, 10, none⟩ = some (.int .u64 0) := Blk.get QCb21 10 rfl
          have QCf2110 : World.frozen? w21 ⟨w1.heap.size, 10, none⟩ = false := Blk.frozen QCb21 10
          have QCc2111 : World.cell? w21 ⟨w1.heap.size, 11, none⟩ = some (.int .u64 0) := Blk.get QCb21 11 rfl
          have QCf2111 : World.frozen? w21 ⟨w1.heap.size, 11, none⟩ = false := Blk.frozen QCb21 11
          have QCc2112 : World.cell? w21 ⟨w1.heap.size, 12, none⟩ = some (.int .u64 0) := Blk.get QCb21 12 rfl
          have QCf2112 : World.frozen? w21 ⟨w1.heap.size, 12, none⟩ = false := Blk.frozen QCb21 12
          have QCc2113 : World.cell? w21 ⟨w1.heap.size, 13, none⟩ = some (.int .u64 0) := Blk.get QCb21 13 rfl
          have QCf2113 : World.frozen? w21 ⟨w1.heap.size, 13, none⟩ = false := Blk.frozen QCb21 13
          have QCc2114 : World.cell? w21 ⟨w1.heap.size, 14, none⟩ = some (.int .u64 0) := Blk.get QCb21 14 rfl
          have QCf2114 : World.frozen? w21 ⟨w1.heap.size, 14, none⟩ = false := Blk.frozen QCb21 14
          have QCc2115 : World.cell? w21 ⟨w1.heap.size, 15, none⟩ = some (.int .u64 0) := Blk.get QCb21 15 rfl
          have QCf2115 : World.frozen? w21 ⟨w1.heap.size, 15, none⟩ = false := Blk.frozen QCb21 15
          have QCc2116 : World.cell? w21 ⟨w1.heap.size, 16, none⟩ = some (.int .i64 0) := Blk.get QCb21 16 rfl
          have QCf2116 : World.frozen? w21 ⟨w1.heap.size, 16, none⟩ = false := Blk.frozen QCb21 16
          have QCc2117 : World.cell? w21 ⟨w1.heap.size, 17, none⟩ = some (.int .i64 0) := Blk.get QCb21 17 rfl
          have QCf2117 : World.frozen? w21 ⟨w1.heap.size, 17, none⟩ = false := Blk.frozen QCb21 17
          have QCc2118 : World.cell? w21 ⟨w1.heap.size, 18, none⟩ = some (.int .i64 0) := Blk.get QCb21 18 rfl
          have QCf2118 : World.frozen? w21 ⟨w1.heap.size, 18, none⟩ = false := Blk.frozen QCb21 18
          have QCc2119 : World.cell? w21 ⟨w1.heap.size, 19, none⟩ = some (.int .u64 0) := Blk.get QCb21 19 rfl
          have QCf2119 : World.frozen? w21 ⟨w1.heap.size, 19, none⟩ = false := Blk.frozen QCb21 19
          have QCc2120 : World.cell? w21 ⟨w1.heap.size, 20, none⟩ = some (.int .i64 0) := Blk.get QCb21 20 rfl
          have QCf2120 : World.frozen? w21 ⟨w1.heap.size, 20, none⟩ = false := Blk.frozen QCb21 20
          have QCc2121 : World.cell? w21 ⟨w1.heap.size, 21, none⟩ = some (.int .i64 0) := Blk.get QCb21 21 rfl
          have QCf2121 : World.frozen? w21 ⟨w1.heap.size, 21, none⟩ = false := Blk.frozen QCb21 21
          have QCc2122 : World.cell? w21 ⟨w1.heap.size, 22, none⟩ = some (.int .u64 0) := Blk.get QCb21 22 rfl
          have QCf2122 : World.frozen? w21 ⟨w1.heap.size, 22, none⟩ = false := Blk.frozen QCb21 22
          have QCc2123 : World.cell? w21 ⟨w1.heap.size, 23, none⟩ = some (.int .u64 0) := Blk.get QCb21 23 rfl
          have QCf2123 : World.frozen? w21 ⟨w1.heap.size, 23, none⟩ = false := Blk.frozen QCb21 23
          have QCn21 := Blk.lt QCb21
          refine hK.out _ _ (KE.out _ hb21) (fun hH21 => ?_)
          clear hK K hH
          have hH := hH21
          clear hH21
          try simp only [Act.put, List.getElem_toArray, List.getElem_cons_succ, List.getElem_cons_zero, List.setIfInBounds_toArray, List.set_cons_zero, List.set_cons_succ]
          refine wpAnyH_ready (rs := [4]) (by kernel_rfl) (by simp) ?_
          refine (AllReadyH.cons rfl (fun K hK => ?_) AllReadyH.nil)
          go_simp
          have NEQCQA22 : w1.heap.size ≠ w21.heap.size := Nat.ne_of_lt (Nat.lt_of_lt_of_eq (Blk.lt QCb21) (by simp))
          have QCb22 := Blk.alloc QCb21 (.cells #[.int .u8 0, .int .u64 0, .int .i64 0, .int .u64 0, .int .i64 0, .int .i64 0, .bool false, .int .u64 0, .int .u64 0, .int .u64 0, .int .u64 0, .int .u64 0, .int .u64 0, .int .u64 0, .int .u64 0, .int .u64 0, .int .i64 0, .int .i64 0, .int .i64 0, .int .u64 0, .int .i64 0, .int .i64 0, .int .u64 0, .int .u64 0] 32)
          have QAb22 : Blk (w21.alloc (.cells #[.int .u8 0, .int .u64 0, .int .i64 0, .int .u64 0, .int .i64 0, .int .i64 0, .bool false, .int .u64 0, .int .u64 0, .int .u64 0, .int .u64 0, .int .u64 0, .int .u64 0, .int .u64 0, .int .u64 0, .int .u64 0, .int .i64 0, .int .i64 0, .int .i64 0, .int .u64 0, .int .i64 0, .int .i64 0, .int .u64 0, .int .u64 0] 32)) (w21.heap.size) 32 #[.int .u8 0, .int .u64 0, .int .i64 0, .int .u64 0, .int .i64 0, .int .i64 0, .bool false, .int .u64 0, .int .u64 0, .int .u64 0, .int .u64 0, .int .u64 0, .int .u64 0, .int .u64 0, .int .u64 0, .int .u64 0, .int .i64 0, .int .i64 0, .int .i64 0, .int .u64 0, .int .i64 0, .int .i64 0, .int .u64 0, .int .u64 0] := Blk.new_at (by simp)
          have QGQA : wd.heap.size ≤ w21.heap.size := Nat.le_trans (Below.size (hb21)) (Nat.le_of_eq (by simp))
          have hb22 := Below.alloc (hb21) (Below.size (hb21)) (.cells #[.int .u8 0, .int .u64 0, .int .i64 0, .int .u64 0, .int .i64 0, .int .i64 0, .bool false, .int .u64 0, .int .u64 0, .int .u64 0, .int .u64 0, .int .u64 0, .int .u64 0, .int .u64 0, .int .u64 0, .int .u64 0, .int .i64 0, .int .i64 0, .int .i64 0, .int .u64 0, .int .i64 0, .int .i64 0, .int .u64 0, .int .u64 0] 32)
          refine hK.out _ _ (KE.out _ hb22) (fun hH22 => ?_)
          clear hK K hH
          have hH := hH22
          clear hH22
          try simp only [Act.put, List.getElem_toArray, List.getElem_cons_succ, List.getElem_cons_zero, List.setIfInBounds_toArray, List.set_cons_zero, List.set_cons_succ]
          refine wpAnyH_ready (rs := [6]) (by kernel_rfl) (by simp) ?_
          refine (AllReadyH.cons rfl (fun K hK => ?_) AllReadyH.nil)
          rw [if_pos (by rfl)]
          refine wp_store_blk 32 _ _ rfl (w21.heap.size) (rowA cmdT 24 (ownC ka a)) _ rfl rfl 32 (QAb22) (by simp [rowA_size]) (by rw [rowA_size]; kernel_rfl) rowA_one ?_
          intro w23 hst23 hfr23
          have hb23 := Below.trans (hb22) (hfr23.below (Below.size (hb22)) (fun k hk e => by have := QGQA; omega))
          have QAb23 := hst23
          have QCb23 := Blk.fr (QCb22) hfr23 (by show ¬ (_ = _); first |assumption |exact Ne.symm (by assumption) |omega)
          refine hK.out _ _ (KE.out _ hb23) (fun hH23 => ?_)
          clear hK K hH
          have hH := hH23
          clear hH23
          try simp only [Act.put, List.getElem_toArray, List.getElem_cons_succ, List.getElem_cons_zero, List.setIfInBounds_toArray, List.set_cons_zero, List.set_cons_succ]
          refine wpAnyH_ready (rs := [7]) (by kernel_rfl) (by simp) ?_
          refine (AllReadyH.cons rfl (fun K hK => ?_) AllReadyH.nil)
          rw [if_pos (by rfl)]
          refine wp_store_blk 32 _ _ rfl (w1.heap.size) (rowA cmdT 24 (ownC kc c)) _ rfl rfl 32 (QCb23) (by simp [rowA_size]) (by rw [rowA_size]; kernel_rfl) rowA_one ?_
          intro w24 hst24 hfr24
          have hb24 := Below.trans (hb23) (hfr24.below (Below.size (hb23)) (fun k hk e => by have := QGQC; omega))
          have QCb24 := hst24
          have QAb24 := Blk.fr (QAb23) hfr24 (by show ¬ (_ = _); first |assumption |exact Ne.symm (by assumption) |omega)
          refine hK.out _ _ (KE.out _ hb24) (fun hH24 => ?_)
          clear hK K hH
          have hH := hH24
          clear hH24
          try simp only [Act.put, List.getElem_toArray, List.getElem_cons_succ, List.getElem_cons_zero, List.setIfInBounds_toArray, List.set_cons_zero, List.set_cons_succ]
          refine wpAnyH_done (by kernel_rfl) ?_ _
          refine NoPanic.normal ?_
          have p1 := QAb24
          have p2 := QCb24
          rw [zero_cmd, rowA_whole] at p1 p2
          have p3 := hl.out.next hb24
          go_wp2_with fail
          go_meet
          exact ⟨_, _, rfl, rfl, p1, p2, p3⟩
        · skip
          go_simp
          have NEQCQA25 : w1.heap.size ≠ w1.heap.size + 1 := Nat.ne_of_lt (Nat.lt_of_lt_of_eq (Blk.lt QCb20) (by simp))
          have QCb25 := Blk.alloc QCb20 (.cells #[.int .u8 0, .int .u64 0, .int .i64 0, .int .u64 0, .int .i64 0, .int .i64 0, .bool false, .int .u64 0, .int .u64 0, .int .u64 0, .int .u64 0, .int .u64 0, .int .u64 0, .int .u64 0, .int .u64 0, .int .u64 0, .int .i64 0, .int .i64 0, .int .i64 0, .int .u64 0, .int .i64 0, .int .i64 0, .int .u64 0, .int .u64 0] 32)
          have QAb25 : Blk ((w1.alloc (.cells #[.int .u8 0, .int .u64 0, .int .i64 0, .int .u64 0, .int .i64 0, .int .i64 0, .bool false, .int .u64 0, .int .u64 0, .int .u64 0, .int .u64 0, .int .u64 0, .int .u64 0, .int .u64 0, .int .u64 0, .int .u64 0, .int .i64 0, .int .i64 0, .int .i64 0, .int .u64 0, .int .i64 0, .int .i64 0, .int .u64 0, .int .u64 0] 32)).alloc (.cells #[.int .u8 0, .int .u64 0, .int .i64 0, .int .u64 0, .int .i64 0, .int .i64 0, .bool false, .int .u64 0, .int .u64 0, .int .u64 0, .int .u64 0, .int .u64 0, .int .u64 0, .int .u64 0, .int .u64 0, .int .u64 0, .int .i64 0, .int .i64 0, .int .i64 0, .int .u64 0, .int .i64 0, .int .i64 0, .int .u64 0, .int .u64 0] 32)) (w1.heap.size + 1) 32 #[.int .u8 0, .int .u64 0, .int .i64 0, .int .u64 0, .int .i64 0, .int .i64 0, .bool false, .int .u64 0, .int .u64 0, .int .u64 0, .int .u64 0, .int .u64 0, .int .u64 0, .int .u64 0, .int .u64 0, .int .u64 0, .int .i64 0, .int .i64 0, .int .i64 0, .int .u64 0, .int .i64 0, .int .i64 0, .int .u64 0, .int .u64 0] := Blk.new_at (by simp)
          have QGQA : wd.heap.size ≤ w1.heap.size + 1 := Nat.le_trans (Below.size (hb20)) (Nat.le_of_eq (by simp))
          have hb25 := Below.alloc (hb20) (Below.size (hb20)) (.cells #[.int .u8 0, .int .u64 0, .int .i64 0, .int .u64 0, .int .i64 0, .int .i64 0, .bool false, .int .u64 0, .int .u64 0, .int .u64 0, .int .u64 0, .int .u64 0, .int .u64 0, .int .u64 0, .int .u64 0, .int .u64 0, .int .i64 0, .int .i64 0, .int .i64 0, .int .u64 0, .int .i64 0, .int .i64 0, .int .u64 0, .int .u64 0] 32)
          refine hK.out _ _ (KE.out _ hb25) (fun hH25 => ?_)
          clear hK K hH
          have hH := hH25
          clear hH25
          try simp only [Act.put, List.getElem_toArray, List.getElem_cons_succ, List.getElem_cons_zero, List.setIfInBounds_toArray, List.set_cons_zero, List.set_cons_succ]
          refine wpAnyH_ready (rs := [3]) (by kernel_rfl) (by simp) ?_
          refine (AllReadyH.cons rfl (fun K hK => ?_) AllReadyH.nil)
          go_simp
          with_reducible refine (cmd_own c _ kc HAC.out.2).mono ?_
          rintro e w26 ⟨rfl, hb26'⟩
          have hb26 : Below (wd.heap.size) wd w26 := below_next hH.2 hb26'
          try go_wp2_with fail
          have QCb26 := Blk.next QCb25 hb26'
          have QCc260 : World.cell? w26 ⟨w1.heap.size, 0, none⟩ = some (.int .u8 0) := Blk.get QCb26 0 rfl
          have QCf260 : World.frozen? w26 ⟨w1.heap.size, 0, none⟩ = false := Blk.frozen QCb26 0
          have QCc261 : World.cell? w26 ⟨w1.heap.size, 1, none⟩ = some (.int .u64 0) := Blk.get QCb26 1 rfl
          have QCf261 : World.frozen? w26 ⟨w1.heap.size, 1, none⟩ = false := Blk.frozen QCb26 1
          have QCc262 : World.cell? w26 ⟨w1.heap.size, 2, none⟩ = some (.int .i64 0) := Blk.get QCb26 2 rfl
          have QCf262 : World.frozen? w26 ⟨w1.heap.size, 2, none⟩ = false := Blk.frozen QCb26 2
          have QCc263 : World.cell? w26 ⟨w1.heap.size, 3, none⟩ = some (.int .u64 0) := Blk.get QCb26 3 rfl
          have QCf263 : World.frozen? w26 ⟨w1.heap.size, 3, none⟩ = false := Blk.frozen QCb26 3
          have QCc264 : World.cell? w26 ⟨w1.heap.size, 4, none⟩ = some (.int .i64 0) := Blk.get QCb26 4 rfl
          have QCf264 : World.frozen? w26 ⟨w1.heap.size, 4, none⟩ = false := Blk.frozen QCb26 4
          have QCc265 : World.cell? w26 ⟨w1.heap.size, 5, none⟩ = some (.int .i64 0) := Blk.get QCb26 5 rfl
          have QCf265 : World.frozen? w26 ⟨w1.heap.size, 5, none⟩ = false := Blk.frozen QCb26 5
          have QCc266 : World.cell? w26 ⟨w1.heap.size, 6, none⟩ = some (.bool false) := Blk.get QCb26 6 rfl
          have QCf266 : World.frozen? w26 ⟨w1.heap.size, 6, none⟩ = false := Blk.frozen QCb26 6
          have QCc267 : World.cell? w26 ⟨w1.heap.size, 7, none⟩ = some (.int .u64 0) := Blk.get QCb26 7 rfl
          have QCf267 : World.frozen? w26 ⟨w1.heap.size, 7, none⟩ = false := Blk.frozen QCb26 7
          have QCc268 : World.cell? w26 ⟨w1.heap.size, 8, none⟩ = some (.int .u64 0) := Blk.get QCb26 8 rfl
          have QCf268 : World.frozen? w26 ⟨w1.heap.size, 8, none⟩ = false := Blk.frozen QCb26 8
          have QCc269 : World.cell? w26 ⟨w1.heap.size, 9, none⟩ = some (.int .u64 0) := Blk.get QCb26 9 rfl
          have QCf269 : World.frozen? w26 ⟨w1.heap.size, 9, none⟩ = false := Blk.frozen QCb26 9
          have QCc2610 : World.cell? w26 ⟨w1.heap.size, 10, none⟩ = some (.int .u64 0) := Blk.get QCb26 10 rfl
          have QCf2610 : World.frozen? w26 ⟨w1.heap.size, 10, none⟩ = false := Blk.frozen QCb26 10
          have QCc2611 : World.cell? w26 ⟨w1.heap.size, 11, none⟩ = some (.int .u64 0) := Blk.get QCb26 11 rfl
          have QCf2611 : World.frozen? w26 ⟨w1.heap.size, 11, none⟩ = false := Blk.frozen QCb26 11
          have QCc2612 : World.cell? w26 ⟨w1.heap.size, 12, none⟩ = some (.int .u64 0) := Blk.get QCb26 12 rfl
          have QCf2612 : World.frozen? w26 ⟨w1.heap.size, 12, none⟩ = false := Blk.frozen QCb26 12
          have QCc2613 : World.cell? w26 ⟨w1.heap.size, 13, none⟩ = some (.int .u64 0) := Blk.get QCb26 13 rfl
          have QCf2613 : World.frozen? w26 ⟨w1.heap.size, 13, none⟩ = false := Blk.frozen QCb26 13
          have QCc2614 : World.cell? w26 ⟨w1.heap.size, 14, none⟩ = some (.int .u64 0) := Blk.get QCb26 14 rfl
          have QCf2614 : World.frozen? w26 ⟨w1.heap.size, 14, none⟩ = false := Blk.frozen QCb26 14
          have QCc2615 : World.cell? w26 ⟨w1.heap.size, 15, none⟩ = some (.int .u64 0) := Blk.get QCb26 15 rfl
          have QCf2615 : World.frozen? w26 ⟨w1.heap.size, 15, none⟩ = false := Blk.frozen QCb26 15
          have QCc2616 : World.cell? w26 ⟨w1.heap.size, 16, none⟩ = some (.int .i64 0) := Blk.get QCb26 16 rfl
          have QCf2616 : World.frozen? w26 ⟨w1.heap.size, 16, none⟩ = false := Blk.frozen QCb26 16
          have QCc2617 : World.cell? w26 ⟨w1.heap.size, 17, none⟩ = some (.int .i64 0) := Blk.get QCb26 17 rfl
          have QCf2617 : World.frozen? w26 ⟨w1.heap.size, 17, none⟩ = false := Blk.frozen QCb26 17
          have QCc2618 : World.cell? w26 ⟨w1.heap.size, 18, none⟩ = some (.int .i64 0) := Blk.get QCb26 18 rfl
          have QCf2618 : World.frozen? w26 ⟨w1.heap.size, 18, none⟩ = false := Blk.frozen QCb26 18
          have QCc2619 : World.cell? w26 ⟨w1.heap.size, 19, none⟩ = some (.int .u64 0) := Blk.get QCb26 19 rfl
          have QCf2619 : World.frozen? w26 ⟨w1.heap.size, 19, none⟩ = false := Blk.frozen QCb26 19
          have QCc2620 : World.cell? w26 ⟨w1.heap.size, 20, none⟩ = some (.int .i64 0) := Blk.get QCb26 20 rfl
          have QCf2620 : World.frozen? w26 ⟨w1.heap.size, 20, none⟩ = false := Blk.frozen QCb26 20
          have QCc2621 : World.cell? w26 ⟨w1.heap.size, 21, none⟩ = some (.int .i64 0) := Blk.get QCb26 21 rfl
          have QCf2621 : World.frozen? w26 ⟨w1.heap.size, 21, none⟩ = false := Blk.frozen QCb26 21
          have QCc2622 : World.cell? w26 ⟨w1.heap.size, 22, none⟩ = some (.int .u64 0) := Blk.get QCb26 22 rfl
          have QCf2622 : World.frozen? w26 ⟨w1.heap.size, 22, none⟩ = false := Blk.frozen QCb26 22
          have QCc2623 : World.cell? w26 ⟨w1.heap.size, 23, none⟩ = some (.int .u64 0) := Blk.get QCb26 23 rfl
          have QCf2623 : World.frozen? w26 ⟨w1.heap.size, 23, none⟩ = false := Blk.frozen QCb26 23
          have QCn26 := Blk.lt QCb26
          have QAb26 := Blk.next QAb25 hb26'
          have QAc260 : World.cell? w26 ⟨w1.heap.size + 1, 0, none⟩ = some (.int .u8 0) := Blk.get QAb26 0 rfl
          have QAf260 : World.frozen? w26 ⟨w1.heap.size + 1, 0, none⟩ = false := Blk.frozen QAb26 0
          have QAc261 : World.cell? w26 ⟨w1.heap.size + 1, 1, none⟩ = some (.int .u64 0) := Blk.get QAb26 1 rfl
          have QAf261 : World.frozen? w26 ⟨w1.heap.size + 1, 1, none⟩ = false := Blk.frozen QAb26 1
          have QAc262 : World.cell? w26 ⟨w1.heap.size + 1, 2, none⟩ = some (.int .i64 0) := Blk.get QAb26 2 rfl
          have QAf262 : World.frozen? w26 ⟨w1.heap.size + 1, 2, none⟩ = false := Blk.frozen QAb26 2
          have QAc263 : World.cell? w26 ⟨w1.heap.size + 1, 3, none⟩ = some (.int .u64 0) := Blk.get QAb26 3 rfl
          have QAf263 : World.frozen? w26 ⟨w1.heap.size + 1, 3, none⟩ = false := Blk.frozen QAb26 3
          have QAc264 : World.cell? w26 ⟨w1.heap.size + 1, 4, none⟩ = some (.int .i64 0) := Blk.get QAb26 4 rfl
          have QAf264 : World.frozen? w26 ⟨w1.heap.size + 1, 4, none⟩ = false := Blk.frozen QAb26 4
          have QAc265 : World.cell? w26 ⟨w1.heap.size + 1, 5, none⟩ = some (.int .i64 0) := Blk.get QAb26 5 rfl
          have QAf265 : World.frozen? w26 ⟨w1.heap.size + 1, 5, none⟩ = false := Blk.frozen QAb26 5
          have QAc266 : World.cell? w26 ⟨w1.heap.size + 1, 6, none⟩ = some (.bool false) := Blk.get QAb26 6 rfl
          have QAf266 : World.frozen? w26 ⟨w1.heap.size + 1, 6, none⟩ = false := Blk.frozen QAb26 6
          have QAc267 : World.cell? w26 ⟨w1.heap.size + 1, 7, none⟩ = some (.int .u64 0) := Blk.get QAb26 7 rfl
          have QAf267 : World.frozen? w26 ⟨w1.heap.size + 1, 7, none⟩ = false := Blk.frozen QAb26 7
          have QAc268 : World.cell? w26 ⟨w1.heap.size + 1, 8, none⟩ = some (.int .u64 0) := Blk.get QAb26 8 rfl
          have QAf268 : World.frozen? w26 ⟨w1.heap.size + 1, 8, none⟩ = false := Blk.frozen QAb26 8
          have QAc269 : World.cell? w26 ⟨w1.heap.size + 1, 9, none⟩ = some (.int .u64 0) := Blk.get QAb26 9 rfl
          have QAf269 : World.frozen? w26 ⟨w1.heap.size + 1, 9, none⟩ = false := Blk.frozen QAb26 9
          have QAc2610 : World.cell? w26 ⟨w1.heap.size + 1, 10, none⟩ = some (.int .u64 0) := Blk.get QAb26 10 rfl
          have QAf2610 : World.frozen? w26 ⟨w1.heap.size + 1, 10, none⟩ = false := Blk.frozen QAb26 10
          have QAc2611 : World.cell? w26 ⟨w1.heap.size + 1, 11, none⟩ = some (.int .u64 0) := Blk.get QAb26 11 rfl
          have QAf2611 : World.frozen? w26 ⟨w1.heap.size + 1, 11, none⟩ = false := Blk.frozen QAb26 11
          have QAc2612 : World.cell? w26 ⟨w1.heap.size + 1, 12, none⟩ = some (.int .u64 0) := Blk.get QAb26 12 rfl
          have QAf2612 : World.frozen? w26 ⟨w1.heap.size + 1, 12, none⟩ = false := Blk.frozen QAb26 12
          have QAc2613 : World.cell? w26 ⟨w1.heap.size + 1, 13, none⟩ = some (.int .u64 0) := Blk.get QAb26 13 rfl
          have QAf2613 : World.frozen? w26 ⟨w1.heap.size + 1, 13, none⟩ = false := Blk.frozen QAb26 13
          have QAc2614 : World.cell? w26 ⟨w1.heap.size + 1, 14, none⟩ = some (.int .u64 0) := Blk.get QAb26 14 rfl
          have QAf2614 : World.frozen? w26 ⟨w1.heap.size + 1, 14, none⟩ = false := Blk.frozen QAb26 14
          have QAc2615 : World.cell? w26 ⟨w1.heap.size + 1, 15, none⟩ = some (.int .u64 0) := Blk.get QAb26 15 rfl
          have QAf2615 : World.frozen? w26 ⟨w1.heap.size + 1, 15, none⟩ = false := Blk.frozen QAb26 15
          have QAc2616 : World.cell? w26 ⟨w1.heap.size + 1, 16, none⟩ = some (.int .i64 0) := Blk.get QAb26 16 rfl
          have QAf2616 : World.frozen? w26 ⟨w1.heap.size + 1, 16, none⟩ = false := Blk.frozen QAb26 16
          have QAc2617 : World.cell? w26 ⟨w1.heap.size + 1, 17, none⟩ = some (.int .i64 0) := Blk.get QAb26 17 rfl
          have QAf2617 : World.frozen? w26 ⟨w1.heap.size + 1, 17, none⟩ = false := Blk.frozen QAb26 17
          have QAc2618 : World.cell? w26 ⟨w1.heap.size + 1, 18, none⟩ = some (.int .i64 0) := Blk.get QAb26 18 rfl
          have QAf2618 : World.frozen? w26 ⟨w1.heap.size + 1, 18, none⟩ = false := Blk.frozen QAb26 18
          have QAc2619 : World.cell? w26 ⟨w1.heap.size + 1, 19, none⟩ = some (.int .u64 0) := Blk.get QAb26 19 rfl
          have QAf2619 : World.frozen? w26 ⟨w1.heap.size + 1, 19, none⟩ = false := Blk.frozen QAb26 19
          have QAc2620 : World.cell? w26 ⟨w1.heap.size + 1, 20, none⟩ = some (.int .i64 0) := Blk.get QAb26 20 rfl
          have QAf2620 : World.frozen? w26 ⟨w1.heap.size + 1, 20, none⟩ = false := Blk.frozen QAb26 20
          have QAc2621 : World.cell? w26 ⟨w1.heap.size + 1, 21, none⟩ = some (.int .i64 0) := Blk.get QAb26 21 rfl
          have QAf2621 : World.frozen? w26 ⟨w1.heap.size + 1, 21, none⟩ = false := Blk.frozen QAb26 21
          have QAc2622 : World.cell? w26 ⟨w1.heap.size + 1, 22, none⟩ = some (.int .u64 0) := Blk.get QAb26 22 rfl
          have QAf2622 : World.frozen? w26 ⟨w1.heap.size + 1, 22, none⟩ = false := Blk.frozen QAb26 22
          have QAc2623 : World.cell? w26 ⟨w1.heap.size + 1, 23, none⟩ = some (.int .u64 0) := Blk.get QAb26 23 rfl
          have QAf2623 : World.frozen? w26 ⟨w1.heap.size + 1, 23, none⟩ = false := Blk.frozen QAb26 23
          have QAn26 := Blk.lt QAb26
          refine hK.out _ _ (KE.out _ hb26) (fun hH26 => ?_)
          clear hK K hH
          have hH := hH26
          clear hH26
          try simp only [Act.put, List.getElem_toArray, List.getElem_cons_succ, List.getElem_cons_zero, List.setIfInBounds_toArray, List.set_cons_zero, List.set_cons_succ]
          refine wpAnyH_ready (rs := [6]) (by kernel_rfl) (by simp) ?_
          refine (AllReadyH.cons rfl (fun K hK => ?_) AllReadyH.nil)
          rw [if_pos (by rfl)]
          refine wp_store_blk 32 _ _ rfl (w1.heap.size + 1) (rowA cmdT 24 (ownC ka a)) _ rfl rfl 32 (QAb26) (by simp [rowA_size]) (by rw [rowA_size]; kernel_rfl) rowA_one ?_
          intro w27 hst27 hfr27
          have hb27 := Below.trans (hb26) (hfr27.below (Below.size (hb26)) (fun k hk e => by have := QGQA; omega))
          have QAb27 := hst27
          have QCb27 := Blk.fr (QCb26) hfr27 (by show ¬ (_ = _); first |assumption |exact Ne.symm (by assumption) |omega)
          refine hK.out _ _ (KE.out _ hb27) (fun hH27 => ?_)
          clear hK K hH
          have hH := hH27
          clear hH27
          try simp only [Act.put, List.getElem_toArray, List.getElem_cons_succ, List.getElem_cons_zero, List.setIfInBounds_toArray, List.set_cons_zero, List.set_cons_succ]
          refine wpAnyH_ready (rs := [7]) (by kernel_rfl) (by simp) ?_
          refine (AllReadyH.cons rfl (fun K hK => ?_) AllReadyH.nil)
          rw [if_pos (by rfl)]
          refine wp_store_blk 32 _ _ rfl (w1.heap.size) (rowA cmdT 24 (ownC kc c)) _ rfl rfl 32 (QCb27) (by simp [rowA_size]) (by rw [rowA_size]; kernel_rfl) rowA_one ?_
          intro w28 hst28 hfr28
          have hb28 := Below.trans (hb27) (hfr28.below (Below.size (hb27)) (fun k hk e => by have := QGQC; omega))
          have QCb28 := hst28
          have QAb28 := Blk.fr (QAb27) hfr28 (by show ¬ (_ = _); first |assumption |exact Ne.symm (by assumption) |omega)
          refine hK.out _ _ (KE.out _ hb28) (fun hH28 => ?_)
          clear hK K hH
          have hH := hH28
          clear hH28
          try simp only [Act.put, List.getElem_toArray, List.getElem_cons_succ, List.getElem_cons_zero, List.setIfInBounds_toArray, List.set_cons_zero, List.set_cons_succ]
          refine wpAnyH_done (by kernel_rfl) ?_ _
          refine NoPanic.normal ?_
          have p1 := QAb28
          have p2 := QCb28
          rw [zero_cmd, rowA_whole] at p1 p2
          have p3 := hl.out.next hb28
          go_wp2_with fail
          go_meet
          exact ⟨_, _, rfl, rfl, p1, p2, p3⟩
    · skip
      go_simp
      have QAb29 : Blk (wd.drew.alloc (.cells #[.int .u8 0, .int .u64 0, .int .i64 0, .int .u64 0, .int .i64 0, .int .i64 0, .bool false, .int .u64 0, .int .u64 0, .int .u64 0, .int .u64 0, .int .u64 0, .int .u64 0, .int .u64 0, .int .u64 0, .int .u64 0, .int .i64 0, .int .i64 0, .int .i64 0, .int .u64 0, .int .i64 0, .int .i64 0, .int .u64 0, .int .u64 0] 32)) (wd.heap.size) 32 #[.int .u8 0, .int .u64 0, .int .i64 0, .int .u64 0, .int .i64 0, .int .i64 0, .bool false, .int .u64 0, .int .u64 0, .int .u64 0, .int .u64 0, .int .u64 0, .int .u64 0, .int .u64 0, .int .u64 0, .int .u64 0, .int .i64 0, .int .i64 0, .int .i64 0, .int .u64 0, .int .i64 0, .int .i64 0, .int .u64 0, .int .u64 0] := Blk.new_at (by simp)
      have QGQA : wd.heap.size ≤ wd.heap.size := Nat.le_trans (Below.size (hbR)) (Nat.le_of_eq (by simp))
      have hb29 := Below.alloc (hbR) (Below.size (hbR)) (.cells #[.int .u8 0, .int .u64 0, .int .i64 0, .int .u64 0, .int .i64 0, .int .i64 0, .bool false, .int .u64 0, .int .u64 0, .int .u64 0, .int .u64 0, .int .u64 0, .int .u64 0, .int .u64 0, .int .u64 0, .int .u64 0, .int .i64 0, .int .i64 0, .int .i64 0, .int .u64 0, .int .i64 0, .int .i64 0, .int .u64 0, .int .u64 0] 32)
      refine hK.out _ _ (KE.out _ hb29) (fun hH29 => ?_)
      clear hK K hH
      have hH := hH29
      clear hH29
      try simp only [Act.put, List.getElem_toArray, List.getElem_cons_succ, List.getElem_cons_zero, List.setIfInBounds_toArray, List.set_cons_zero, List.set_cons_succ]
      refine wpAnyH_ready (rs := [1, 5]) (by kernel_rfl) (by simp) ?_
      refine (AllReadyH.cons rfl (fun K hK => ?_) (AllReadyH.cons rfl (fun K hK => ?_) AllReadyH.nil))
      · skip
        go_simp
        with_reducible refine (cmd_own a _ ka HAC.out.1).mono ?_
        rintro e w30 ⟨rfl, hb30'⟩
        have hb30 : Below (wd.heap.size) wd w30 := below_next hH.2 hb30'
        try go_wp2_with fail
        have QAb30 := Blk.next QAb29 hb30'
        have QAc300 : World.cell? w30 ⟨wd.heap.size, 0, none⟩ = some (.int .u8 0) := Blk.get QAb30 0 rfl
        have QAf300 : World.frozen? w30 ⟨wd.heap.size, 0, none⟩ = false := Blk.frozen QAb30 0
        have QAc301 : World.cell? w30 ⟨wd.heap.size, 1, none⟩ = some (.int .u64 0) := Blk.get QAb30 1 rfl
        have QAf301 : World.frozen? w30 ⟨wd.heap.size, 1, none⟩ = false := Blk.frozen QAb30 1
        have QAc302 : World.cell? w30 ⟨wd.heap.size, 2, none⟩ = some (.int .i64 0) := Blk.get QAb30 2 rfl
        have QAf302 : World.frozen? w30 ⟨wd.heap.size, 2, none⟩ = false := Blk.frozen QAb30 2
        have QAc303 : World.cell? w30 ⟨wd.heap.size, 3, none⟩ = some (.int .u64 0) := Blk.get QAb30 3 rfl
        have QAf303 : World.frozen? w30 ⟨wd.heap.size, 3, none⟩ = false := Blk.frozen QAb30 3
        have QAc304 : World.cell? w30 ⟨wd.heap.size, 4, none⟩ = some (.int .i64 0) := Blk.get QAb30 4 rfl
        have QAf304 : World.frozen? w30 ⟨wd.heap.size, 4, none⟩ = false := Blk.frozen QAb30 4
        have QAc305 : World.cell? w30 ⟨wd.heap.size, 5, none⟩ = some (.int .i64 0) := Blk.get QAb30 5 rfl
        have QAf305 : World.frozen? w30 ⟨wd.heap.size, 5, none⟩ = false := Blk.frozen QAb30 5
        have QAc306 : World.cell? w30 ⟨wd.heap.size, 6, none⟩ = some (.bool false) := Blk.get QAb30 6 rfl
        have QAf306 : World.frozen? w30 ⟨wd.heap.size, 6, none⟩ = false := Blk.frozen QAb30 6
        have QAc307 : World.cell? w30 ⟨wd.heap.size, 7, none⟩ = some (.int .u64 0) := Blk.get QAb30 7 rfl
        have QAf307 : World.frozen? w30 ⟨wd.heap.size, 7, none⟩ = false := Blk.frozen QAb30 7
        have QAc308 : World.cell? w30 ⟨wd.heap.size, 8, none⟩ = some (.int .u64 0) := Blk.get QAb30 8 rfl
        have QAf308 : World.frozen? w30 ⟨wd.heap.size, 8, none⟩ = false := Blk.frozen QAb30 8
        have QAc309 : World.cell? w30 ⟨wd.heap.size, 9, none⟩ = some (.int .u64 0) := Blk.get QAb30 9 rfl
        have QAf309 : World.frozen? w30 ⟨wd.heap.size, 9, none⟩ = false := Blk.frozen QAb30 9
        have QAc3010 : World.cell? w30 ⟨wd.heap.size, 10, none⟩ = some (.int .u64 0) := Blk.get QAb30 10 rfl
        have QAf3010 : World.frozen? w30 ⟨wd.heap.size, 10, none⟩ = false := Blk.frozen QAb30 10
        have QAc3011 : World.cell? w30 ⟨wd.heap.size, 11, none⟩ = some (.int .u64 0) := Blk.get QAb30 11 rfl
        have QAf3011 : World.frozen? w30 ⟨wd.heap.size, 11, none⟩ = false := Blk.frozen QAb30 11
        have QAc3012 : World.cell? w30 ⟨wd.heap.size, 12, none⟩ = some (.int .u64 0) := Blk.get QAb30 12 rfl
        have QAf3012 : World.frozen? w30 ⟨wd.heap.size, 12, none⟩ = false := Blk.frozen QAb30 12
        have QAc3013 : World.cell? w30 ⟨wd.heap.size, 13, none⟩ = some (.int .u64 0) := Blk.get QAb30 13 rfl
        have QAf3013 : World.frozen? w30 ⟨wd.heap.size, 13, none⟩ = false := Blk.frozen QAb30 13
        have QAc3014 : World.cell? w30 ⟨wd.heap.size, 14, none⟩ = some (.int .u64 0) := Blk.get QAb30 14 rfl
        have QAf3014 : World.frozen? w30 ⟨wd.heap.size, 14, none⟩ = false := Blk.frozen QAb30 14
        have QAc3015 : World.cell? w30 ⟨wd.heap.size, 15, none⟩ = some (.int .u64 0) := Blk.get QAb30 15 rfl
        have QAf3015 : World.frozen? w30 ⟨wd.heap.size, 15, none⟩ = false := Blk.frozen QAb30 15
        have QAc3016 : World.cell? w30 ⟨wd.heap.size, 16, none⟩ = some (.int .i64 0) := Blk.get QAb30 16 rfl
        have QAf3016 : World.frozen? w30 ⟨wd.heap.size, 16, none⟩ = false := Blk.frozen QAb30 16
        have QAc3017 : World.cell? w30 ⟨wd.heap.size, 17, none⟩ = some (.int .i64 0) := Blk.get QAb30 17 rfl
        have QAf3017 : World.frozen? w30 ⟨wd.heap.size, 17, none⟩ = false := Blk.frozen QAb30 17
        have QAc3018 : World.cell? w30 ⟨wd.heap.size, 18, none⟩ = some (.int .i64 0) := Blk.get QAb30 18 rfl
        have QAf3018 : World.frozen? w30 ⟨wd.heap.size, 18, none⟩ = false := Blk.frozen QAb30 18
        have QAc3019 : World.cell? w30 ⟨wd.heap.size, 19, none⟩ = some (.int .u64 0) := Blk.get QAb30 19 rfl
        have QAf3019 : World.frozen? w30 ⟨wd.heap.size, 19, none⟩ = false := Blk.frozen QAb30 19
        have QAc3020 : World.cell? w30 ⟨wd.heap.size, 20, none⟩ = some (.int .i64 0) := Blk.get QAb30 20 rfl
        have QAf3020 : World.frozen? w30 ⟨wd.heap.size, 20, none⟩ = false := Blk.frozen QAb30 20
        have QAc3021 : World.cell? w30 ⟨wd.heap.size, 21, none⟩ = some (.int .i64 0) := Blk.get QAb30 21 rfl
        have QAf3021 : World.frozen? w30 ⟨wd.heap.size, 21, none⟩ = false := Blk.frozen QAb30 21
        have QAc3022 : World.cell? w30 ⟨wd.heap.size, 22, none⟩ = some (.int .u64 0) := Blk.get QAb30 22 rfl
        have QAf3022 : World.frozen? w30 ⟨wd.heap.size, 22, none⟩ = false := Blk.frozen QAb30 22
        have QAc3023 : World.cell? w30 ⟨wd.heap.size, 23, none⟩ = some (.int .u64 0) := Blk.get QAb30 23 rfl
        have QAf3023 : World.frozen? w30 ⟨wd.heap.size, 23, none⟩ = false := Blk.frozen QAb30 23
        have QAn30 := Blk.lt QAb30
        refine hK.out _ _ (KE.out _ hb30) (fun hH30 => ?_)
        clear hK K hH
        have hH := hH30
        clear hH30
        try simp only [Act.put, List.getElem_toArray, List.getElem_cons_succ, List.getElem_cons_zero, List.setIfInBounds_toArray, List.set_cons_zero, List.set_cons_succ]
        refine wpAnyH_ready (rs := [3, 5]) (by kernel_rfl) (by simp) ?_
        refine (AllReadyH.cons rfl (fun K hK => ?_) (AllReadyH.cons rfl (fun K hK => ?_) AllReadyH.nil))
        · skip
          go_simp
          with_reducible refine (cmd_own c _ kc HAC.out.2).mono ?_
          rintro e w31 ⟨rfl, hb31'⟩
          have hb31 : Below (wd.heap.size) wd w31 := below_next hH.2 hb31'
          try go_wp2_with fail
          have QAb31 := Blk.next QAb30 hb31'
          have QAc310 : World.cell? w31 ⟨wd.heap.size, 0, none⟩ = some (.int .u8 0) := Blk.get QAb31 0 rfl
          have QAf310 : World.frozen? w31 ⟨wd.heap.size, 0, none⟩ = false := Blk.frozen QAb31 0
          have QAc311 : World.cell? w31 ⟨wd.heap.size, 1, none⟩ = some (.int .u64 0) := Blk.get QAb31 1 rfl
          have QAf311 : World.frozen? w31 ⟨wd.heap.size, 1, none⟩ = false := Blk.frozen QAb31 1
          have QAc312 : World.cell? w31 ⟨wd.heap.size, 2, none⟩ = some (.int .i64 0) := Blk.get QAb31 2 rfl
          have QAf312 : World.frozen? w31 ⟨wd.heap.size, 2, none⟩ = false := Blk.frozen QAb31 2
          have QAc313 : World.cell? w31 ⟨wd.heap.size, 3, none⟩ = some (.int .u64 0) := Blk.get QAb31 3 rfl
          have QAf313 : World.frozen? w31 ⟨wd.heap.size, 3, none⟩ = false := Blk.frozen QAb31 3
          have QAc314 : World.cell? w31 ⟨wd.heap.size, 4, none⟩ = some (.int .i64 0) := Blk.get QAb31 4 rfl
          have QAf314 : World.frozen? w31 ⟨wd.heap.size, 4, none⟩ = false := Blk.frozen QAb31 4
          have QAc315 : World.cell? w31 ⟨wd.heap.size, 5, none⟩ = some (.int .i64 0) := Blk.get QAb31 5 rfl
          have QAf315 : World.frozen? w31 ⟨wd.heap.size, 5, none⟩ = false := Blk.frozen QAb31 5
          have QAc316 : World.cell? w31 ⟨wd.heap.size, 6, none⟩ = some (.bool false) := Blk.get QAb31 6 rfl
          have QAf316 : World.frozen? w31 ⟨wd.heap.size, 6, none⟩ = false := Blk.frozen QAb31 6
          have QAc317 : World.cell? w31 ⟨wd.heap.size, 7, none⟩ = some (.int .u64 0) := Blk.get QAb31 7 rfl
          have QAf317 : World.frozen? w31 ⟨wd.heap.size, 7, none⟩ = false := Blk.frozen QAb31 7
          have QAc318 : World.cell? w31 ⟨wd.heap.size, 8, none⟩ = some (.int .u64 0) := Blk.get QAb31 8 rfl
          have QAf318 : World.frozen? w31 ⟨wd.heap.size, 8, none⟩ = false := Blk.frozen QAb31 8
          have QAc319 : World.cell? w31 ⟨wd.heap.size, 9, none⟩ = some (.int .u64 0) := Blk.get QAb31 9 rfl
          have QAf319 : World.frozen? w31 ⟨wd.heap.size, 9, none⟩ = false := Blk.frozen QAb31 9
          have QAc3110 : World.cell? w31 ⟨wd.heap.size, 10, none⟩ = some (.int .u64 0) := Blk.get QAb31 10 rfl
          have QAf3110 : World.frozen? w31 ⟨wd.heap.size, 10, none⟩ = false := Blk.frozen QAb31 10
          have QAc3111 : World.cell? w31 ⟨wd.heap.size, 11, none⟩ = some (.int .u64 0) := Blk.get QAb31 11 rfl
          have QAf3111 : World.frozen? w31 ⟨wd.heap.size, 11, none⟩ = false := Blk.frozen QAb31 11
          have QAc3112 : World.cell? w31 ⟨wd.heap.size, 12, none⟩ = some (.int .u64 0) := Blk.get QAb31 12 rfl
          have QAf3112 : World.frozen? w31 ⟨wd.heap.size, 12, none⟩ = false := Blk.frozen QAb31 12
          have QAc3113 : World.cell? w31 ⟨wd.heap.size, 13, none⟩ = some (.int .u64 0) := Blk.get QAb31 13 rfl
          have QAf3113 : World.frozen? w31 ⟨wd.heap.size, 13, none⟩ = false := Blk.frozen QAb31 13
          have QAc3114 : World.cell? w31 ⟨wd.heap.size, 14, none⟩ = some (.int .u64 0) := Blk.get QAb31 14 rfl
          have QAf3114 : World.frozen? w31 ⟨wd.heap.size, 14, none⟩ = false := Blk.frozen QAb31 14
          have QAc3115 : World.cell? w31 ⟨wd.heap.size, 15, none⟩ = some (.int .u64 0) := Blk.get QAb31 15 rfl
          have QAf3115 : World.frozen? w31 ⟨wd.heap.size, 15, none⟩ = false := Blk.frozen QAb31 15
          have QAc3116 : World.cell? w31 ⟨wd.heap.size, 16, none⟩ = some (.int .i64 0) := Blk.get QAb31 16 rfl
          have QAf3116 : World.frozen? w31 ⟨wd.heap.size, 16, none⟩ = false := Blk.frozen QAb31 16
          have QAc3117 : World.cell? w31 ⟨wd.heap.size, 17, none⟩ = some (.int .i64 0) := Blk.get QAb31 17 rfl
          have QAf3117 : World.frozen? w31 ⟨wd.heap.size, 17, none⟩ = false := Blk.frozen QAb31 17
          have QAc3118 : World.cell? w31 ⟨wd.heap.size, 18, none⟩ = some (.int .i64 0) := Blk.get QAb31 18 rfl
          have QAf3118 : World.frozen? w31 ⟨wd.heap.size, 18, none⟩ = false := Blk.frozen QAb31 18
          have QAc3119 : World.cell? w31 ⟨wd.heap.size, 19, none⟩ = some (.int .u64 0) := Blk.get QAb31 19 rfl
          have QAf3119 : World.frozen? w31 ⟨wd.heap.size, 19, none⟩ = false := Blk.frozen QAb31 19
          have QAc3120 : World.cell? w31 ⟨wd.heap.size, 20, none⟩ = some (.int .i64 0) := Blk.get QAb31 20 rfl
          have QAf3120 : World.frozen? w31 ⟨wd.heap.size, 20, none⟩ = false := Blk.frozen QAb31 20
          have QAc3121 : World.cell? w31 ⟨wd.heap.size, 21, none⟩ = some (.int .i64 0) := Blk.get QAb31 21 rfl
          have QAf3121 : World.frozen? w31 ⟨wd.heap.size, 21, none⟩ = false := Blk.frozen QAb31 21
          have QAc3122 : World.cell? w31 ⟨wd.heap.size, 22, none⟩ = some (.int .u64 0) := Blk.get QAb31 22 rfl
          have QAf3122 : World.frozen? w31 ⟨wd.heap.size, 22, none⟩ = false := Blk.frozen QAb31 22
          have QAc3123 : World.cell? w31 ⟨wd.heap.size, 23, none⟩ = some (.int .u64 0) := Blk.get QAb31 23 rfl
          have QAf3123 : World.frozen? w31 ⟨wd.heap.size, 23, none⟩ = false := Blk.frozen QAb31 23
          have QAn31 := Blk.lt QAb31
          refine hK.out _ _ (KE.out _ hb31) (fun hH31 => ?_)
          clear hK K hH
          have hH := hH31
          clear hH31
          try simp only [Act.put, List.getElem_toArray, List.getElem_cons_succ, List.getElem_cons_zero, List.setIfInBounds_toArray, List.set_cons_zero, List.set_cons_succ]
          refine wpAnyH_ready (rs := [5]) (by kernel_rfl) (by simp) ?_
          refine (AllReadyH.cons rfl (fun K hK => ?_) AllReadyH.nil)
          go_simp
          have NEQAQC32 : wd.heap.size ≠ w31.heap.size := Nat.ne_of_lt (Nat.lt_of_lt_of_eq (Blk.lt QAb31) (by simp))
          have QAb32 := Blk.alloc QAb31 (.cells #[.int .u8 0, .int .u64 0, .int .i64 0, .int .u64 0, .int .i64 0, .int .i64 0, .bool false, .int .u64 0, .int .u64 0, .int .u64 0, .int .u64 0, .int .u64 0, .int .u64 0, .int .u64 0, .int .u64 0, .int .u64 0, .int .i64 0, .int .i64 0, .int .i64 0, .int .u64 0, .int .i64 0, .int .i64 0, .int .u64 0, .int .u64 0] 32)
          have QCb32 : Blk (w31.alloc (.cells #[.int .u8 0, .int .u64 0, .int .i64 0, .int .u64 0, .int .i64 0, .int .i64 0, .bool false, .int .u64 0, .int .u64 0, .int .u64 0, .int .u64 0, .int .u64 0, .int .u64 0, .int .u64 0, .int .u64 0, .int .u64 0, .int .i64 0, .int .i64 0, .int .i64 0, .int .u64 0, .int .i64 0, .int .i64 0, .int .u64 0, .int .u64 0] 32)) (w31.heap.size) 32 #[.int .u8 0, .int .u64 0, .int .i64 0, .int .u64 0, .int .i64 0, .int .i64 0, .bool false, .int .u64 0, .int .u64 0, .int .u64 0, .int .u64 0, .int .u64 0, .int .u64 0, .int .u64 0, .int .u64 0, .int .u64 0, .int .i64 0, .int .i64 0, .int .i64 0, .int .u64 0, .int .i64 0, .int .i64 0, .int .u64 0, .int .u64 0] := Blk.new_at (by simp)
          have QGQC : wd.heap.size ≤ w31.heap.size := Nat.le_trans (Below.size (hb31)) (Nat.le_of_eq (by simp))
          have hb32 := Below.alloc (hb31) (Below.size (hb31)) (.cells #[.int .u8 0, .int .u64 0, .int .i64 0, .int .u64 0, .int .i64 0, .int .i64 0, .bool false, .int .u64 0, .int .u64 0, .int .u64 0, .int .u64 0, .int .u64 0, .int .u64 0, .int .u64 0, .int .u64 0, .int .u64 0, .int .i64 0, .int .i64 0, .int .i64 0, .int .u64 0, .int .i64 0, .int .i64 0, .int .u64 0, .int .u64 0] 32)
          refine hK.out _ _ (KE.out _ hb32) (fun hH32 => ?_)
          clear hK K hH
          have hH := hH32
          clear hH32
          try simp only [Act.put, List.getElem_toArray, List.getElem_cons_succ, List.getElem_cons_zero, List.setIfInBounds_toArray, List.set_cons_zero, List.set_cons_succ]
          refine wpAnyH_ready (rs := [6]) (by kernel_rfl) (by simp) ?_
          refine (AllReadyH.cons rfl (fun K hK => ?_) AllReadyH.nil)
          rw [if_pos (by rfl)]
          refine wp_store_blk 32 _ _ rfl (wd.heap.size) (rowA cmdT 24 (ownC ka a)) _ rfl rfl 32 (QAb32) (by simp [rowA_size]) (by rw [rowA_size]; kernel_rfl) rowA_one ?_
          intro w33 hst33 hfr33
          have hb33 := Below.trans (hb32) (hfr33.below (Below.size (hb32)) (fun k hk e => by have := QGQA; omega))
          have QAb33 := hst33
          have QCb33 := Blk.fr (QCb32) hfr33 (by show ¬ (_ = _); first |assumption |exact Ne.symm (by assumption) |omega)
          refine hK.out _ _ (KE.out _ hb33) (fun hH33 => ?_)
          clear hK K hH
          have hH := hH33
          clear hH33
          try simp only [Act.put, List.getElem_toArray, List.getElem_cons_succ, List.getElem_cons_zero, List.setIfInBounds_toArray, List.set_cons_zero, List.set_cons_succ]
          refine wpAnyH_ready (rs := [7]) (by kernel_rfl) (by simp) ?_
          refine (AllReadyH.cons rfl (fun K hK => ?_) AllReadyH.nil)
          rw [if_pos (by rfl)]
          refine wp_store_blk 32 _ _ rfl (w31.heap.size) (rowA cmdT 24 (ownC kc c)) _ rfl rfl 32 (QCb33) (by simp [rowA_size]) (by rw [rowA_size]; kernel_rfl) rowA_one ?_
          intro w34 hst34 hfr34
          have hb34 := Below.trans (hb33) (hfr34.below (Below.size (hb33)) (fun k hk e => by have := QGQC; omega))
          have QCb34 := hst34
          have QAb34 := Blk.fr (QAb33) hfr34 (by show ¬ (_ = _); first |assumption |exact Ne.symm (by assumption) |omega)
          refine hK.out _ _ (KE.out _ hb34) (fun hH34 => ?_)
          clear hK K hH
          have hH := hH34
          clear hH34
          try simp only [Act.put, List.getElem_toArray, List.getElem_cons_succ, List.getElem_cons_zero, List.setIfInBounds_toArray, List.set_cons_zero, List.set_cons_succ]
          refine wpAnyH_done (by kernel_rfl) ?_ _
          refine NoPanic.normal ?_
          have p1 := QAb34
          have p2 := QCb34
          rw [zero_cmd, rowA_whole] at p1 p2
          have p3 := hl.out.next hb34
          go_wp2_with fail
          go_meet
          exact ⟨_, _, rfl, rfl, p1, p2, p3⟩
        · skip
          go_simp
          have NEQAQC35 : wd.heap.size ≠ w30.heap.size := Nat.ne_of_lt (Nat.lt_of_lt_of_eq (Blk.lt QAb30) (by simp))
          have QAb35 := Blk.alloc QAb30 (.cells #[.int .u8 0, .int .u64 0, .int .i64 0, .int .u64 0, .int .i64 0, .int .i64 0, .bool false, .int .u64 0, .int .u64 0, .int .u64 0, .int .u64 0, .int .u64 0, .int .u64 0, .int .u64 0, .int .u64 0, .int .u64 0, .int .i64 0, .int .i64 0, .int .i64 0, .int .u64 0, .int .i64 0, .int .i64 0, .int .u64 0, .int .u64 0] 32)
          have QCb35 : Blk (w30.alloc (.cells #[.int .u8 0, .int .u64 0, .int .i64 0, .int .u64 0, .int .i64 0, .int .i64 0, .bool false, .int .u64 0, .int .u64 0, .int .u64 0, .int .u64 0, .int .u64 0, .int .u64 0, .int .u64 0, .int .u64 0, .int .u64 0, .int .i64 0, .int .i64 0, .int .i64 0, .int .u64 0, .int .i64 0, .int .i64 0, .int .u64 0, .int .u64 0] 32)) (w30.heap.size) 32 #[.int .u8 0, .int .u64 0, .int .i64 0, .int .u64 0, .int .i64 0, .int .i64 0, .bool false, .int .u64 0, .int .u64 0, .int .u64 0, .int .u64 0, .int .u64 0, .int .u64 0, .int .u64 0, .int .u64 0, .int .u64 0, .int .i64 0, .int .i64 0, .int .i64 0, .int .u64 0, .int .i64 0, .int .i64 0, .int .u64 0, .int .u64 0] := Blk.new_at (by simp)
          have QGQC : wd.heap.size ≤ w30.heap.size := Nat.le_trans (Below.size (hb30)) (Nat.le_of_eq (by simp))
          have hb35 := Below.alloc (hb30) (Below.size (hb30)) (.cells #[.int .u8 0, .int .u64 0, .int .i64 0, .int .u64 0, .int .i64 0, .int .i64 0, .bool false, .int .u64 0, .int .u64 0, .int .u64 0, .int .u64 0, .int .u64 0, .int .u64 0, .int .u64 0, .int .u64 0, .int .u64 0, .int .i64 0, .int .i64 0, .int .i64 0, .int .u64 0, .int .i64 0, .int .i64 0, .int .u64 0, .int .u64 0] 32)
          refine hK.out _ _ (KE.out _ hb35) (fun hH35 => ?_)
          clear hK K hH
          have hH := hH35
          clear hH35
          try simp only [Act.put, List.getElem_toArray, List.getElem_cons_succ, List.getElem_cons_zero, List.setIfInBounds_toArray, List.set_cons_zero, List.set_cons_succ]
          refine wpAnyH_ready (rs := [3]) (by kernel_rfl) (by simp) ?_
          refine (AllReadyH.cons rfl (fun K hK => ?_) AllReadyH.nil)
          go_simp
          with_reducible refine (cmd_own c _ kc HAC.out.2).mono ?_
          rintro e w36 ⟨rfl, hb36'⟩
          have hb36 : Below (wd.heap.size) wd w36 := below_next hH.2 hb36'
          try go_wp2_with fail
          have QAb36 := Blk.next QAb35 hb36'
          have QAc360 : World.cell? w36 ⟨wd.heap.size, 0, none⟩ = some (.int .u8 0) := Blk.get QAb36 0 rfl
          have QAf360 : World.frozen? w36 ⟨wd.heap.size, 0, none⟩ = false := Blk.frozen QAb36 0
          have QAc361 : World.cell? w36 ⟨wd.heap.size, 1, none⟩ = some (.int .u64 0) := Blk.get QAb36 1 rfl
          have QAf361 : World.frozen? w36 ⟨wd.heap.size, 1, none⟩ = false := Blk.frozen QAb36 1
          have QAc362 : World.cell? w36 ⟨wd.heap.size, 2, none⟩ = some (.int .i64 0) := Blk.get QAb36 2 rfl
          have QAf362 : World.frozen? w36 ⟨wd.heap.size, 2, none⟩ = false := Blk.frozen QAb36 2
          have QAc363 : World.cell? w36 ⟨wd.heap.size, 3, none⟩ = some (.int .u64 0) := Blk.get QAb36 3 rfl
          have QAf363 : World.frozen? w36 ⟨wd.heap.size, 3, none⟩ = false := Blk.frozen QAb36 3
          have QAc364 : World.cell? w36 ⟨wd.heap.size, 4, none⟩ = some (.int .i64 0) := Blk.get QAb36 4 rfl
          have QAf364 : World.frozen? w36 ⟨wd.heap.size, 4, none⟩ = false := Blk.frozen QAb36 4
          have QAc365 : World.cell? w36 ⟨wd.heap.size, 5, none⟩ = some (.int .i64 0) := Blk.get QAb36 5 rfl
          have QAf365 : World.frozen? w36 ⟨wd.heap.size, 5, none⟩ = false := Blk.frozen QAb36 5
          have QAc366 : World.cell? w36 ⟨wd.heap.size, 6, none⟩ = some (.bool false) := Blk.get QAb36 6 rfl
          have QAf366 : World.frozen? w36 ⟨wd.heap.size, 6, none⟩ = false := Blk.frozen QAb36 6
          have QAc367 : World.cell? w36 ⟨wd.heap.size, 7, none⟩ = some (.int .u64 0) := Blk.get QAb36 7 rfl
          have QAf367 : World.frozen? w36 ⟨wd.heap.size, 7, none⟩ = false := Blk.frozen QAb36 7
          have QAc368 : World.cell? w36 ⟨wd.heap.size, 8, none⟩ = some (.int .u64 0) := Blk.get QAb36 8 rfl
          have QAf368 : World.frozen? w36 ⟨wd.heap.size, 8, none⟩ = false := Blk.frozen QAb36 8
          have QAc369 : World.cell? w36 ⟨wd.heap.size, 9, none⟩ = some (.int .u64 0) := Blk.get QAb36 9 rfl
          have QAf369 : World.frozen? w36 ⟨wd.heap.size, 9, none⟩ = false := Blk.frozen QAb36 9
          have QAc3610 : World.cell? w36 ⟨wd.heap.size, 10, none⟩ = some (.int .u64 0) := Blk.get QAb36 10 rfl
          have QAf3610 : World.frozen? w36 ⟨wd.heap.size, 10, none⟩ = false := Blk.frozen QAb36 10
          have QAc3611 : World.cell? w36 ⟨wd.heap.size, 11, none⟩ = some (.int .u64 0) := Blk.get QAb36 11 rfl
          have QAf3611 : World.frozen? w36 ⟨wd.heap.size, 11, none⟩ = false := Blk.frozen QAb36 11
          have QAc3612 : World.cell? w36 ⟨wd.heap.size, 12, none⟩ = some (.int .u64 0) := Blk.get QAb36 12 rfl
          have QAf3612 : World.frozen? w36 ⟨wd.heap.size, 12, none⟩ = false := Blk.frozen QAb36 12
          have QAc3613 : World.cell? w36 ⟨wd.heap.size, 13, none⟩ = some (.int .u64 0) := Blk.get QAb36 13 rfl
          have QAf3613 : World.frozen? w36 ⟨wd.heap.size, 13, none⟩ = false := Blk.frozen QAb36 13
          have QAc3614 : World.cell? w36 ⟨wd.heap.size, 14, none⟩ = some (.int .u64 0) := Blk.get QAb36 14 rfl
          have QAf3614 : World.frozen? w36 ⟨wd.heap.size, 14, none⟩ = false := Blk.frozen QAb36 14
          have QAc3615 : World.cell? w36 ⟨wd.heap.size, 15, none⟩ = some (.int .u64 0) := Blk.get QAb36 15 rfl
          have QAf3615 : World.frozen? w36 ⟨wd.heap.size, 15, none⟩ = false := Blk.frozen QAb36 15
          have QAc3616 : World.cell? w36 ⟨wd.heap.size, 16, none⟩ = some (.int .i64 0) := Blk.get QAb36 16 rfl
          have QAf3616 : World.frozen? w36 ⟨wd.heap.size, 16, none⟩ = false := Blk.frozen QAb36 16
          have QAc3617 : World.cell? w36 ⟨wd.heap.size, 17, none⟩ = some (.int .i64 0) := Blk.get QAb36 17 rfl
          have QAf3617 : World.frozen? w36 ⟨wd.heap.size, 17, none⟩ = false := Blk.frozen QAb36 17
          have QAc3618 : World.cell? w36 ⟨wd.heap.size, 18, none⟩ = some (.int .i64 0) := Blk.get QAb36 18 rfl
          have QAf3618 : World.frozen? w36 ⟨wd.heap.size, 18, none⟩ = false := Blk.frozen QAb36 18
          have QAc3619 : World.cell? w36 ⟨wd.heap.size, 19, none⟩ = some (.int .u64 0) := Blk.get QAb36 19 rfl
          have QAf3619 : World.frozen? w36 ⟨wd.heap.size, 19, none⟩ = false := Blk.frozen QAb36 19
          have QAc3620 : World.cell? w36 ⟨wd.heap.size, 20, none⟩ = some (.int .i64 0) := Blk.get QAb36 20 rfl
          have QAf3620 : World.frozen? w36 ⟨wd.heap.size, 20, none⟩ = false := Blk.frozen QAb36 20
          have QAc3621 : World.cell? w36 ⟨wd.heap.size, 21, none⟩ = some (.int .i64 0) := Blk.get QAb36 21 rfl
          have QAf3621 : World.frozen? w36 ⟨wd.heap.size, 21, none⟩ = false := Blk.frozen QAb36 21
          have QAc3622 : World.cell? w36 ⟨wd.heap.size, 22, none⟩ = some (.int .u64 0) := Blk.get QAb36 22 rfl
          have QAf3622 : World.frozen? w36 ⟨wd.heap.size, 22, none⟩ = false := Blk.frozen QAb36 22
          have QAc3623 : World.cell? w36 ⟨wd.heap.size, 23, none⟩ = some (.int .u64 0) := Blk.get QAb36 23 rfl
          have QAf3623 : World.frozen? w36 ⟨wd.heap.size, 23, none⟩ = false := Blk.frozen QAb36 23
          have QAn36 := Blk.lt QAb36
          have QCb36 := Blk.next QCb35 hb36'
          have QCc360 : World.cell? w36 ⟨w30.heap.size, 0, none⟩ = some (.int .u8 0) := Blk.get QCb36 0 rfl
          have QCf360 : World.frozen? w36 ⟨w30.heap.size, 0, none⟩ = false := Blk.frozen QCb36 0
          have QCc361 : World.cell? w36 ⟨w30.heap.size, 1, none⟩ = some (.int .u64 0) := Blk.get QCb36 1 rfl
          have QCf361 : World.frozen? w36 ⟨w30.heap.size, 1, none⟩ = false := Blk.frozen QCb36 1
          have QCc362 : World.cell? w36 ⟨w30.heap.size, 2, none⟩ = some (.int .i64 0) := Blk.get QCb36 2 rfl
          have QCf362 : World.frozen? w36 ⟨w30.heap.size, 2, none⟩ = false := Blk.frozen QCb36 2
          have QCc363 : World.cell? w36 ⟨w30.heap.size, 3, none⟩ = some (.int .u64 0) := Blk.get QCb36 3 rfl
          have QCf363 : World.frozen? w36 ⟨w30.heap.size, 3, none⟩ = false := Blk.frozen QCb36 3
          have QCc364 : World.cell? w36 ⟨w30.heap.size, 4, none⟩ = some (.int .i64 0) := Blk.get QCb36 4 rfl
          have QCf364 : World.frozen? w36 ⟨w30.heap.size, 4, none⟩ = false := Blk.frozen QCb36 4
          have QCc365 : World.cell? w36 ⟨w30.heap.size, 5, none⟩ = some (.int .i64 0) := Blk.get QCb36 5 rfl
          have QCf365 : World.frozen? w36 ⟨w30.heap.size, 5, none⟩ = false := Blk.frozen QCb36 5
          have QCc366 : World.cell? w36 ⟨w30.heap.size, 6, none⟩ = some (.bool false) := Blk.get QCb36 6 rfl
          have QCf366 : World.frozen? w36 ⟨w30.heap.size, 6, none⟩ = false := Blk.frozen QCb36 6
          have QCc367 : World.cell? w36 ⟨w30.heap.size, 7, none⟩ = some (.int .u64 0) := Blk.get QCb36 7 rfl
          have QCf367 : World.frozen? w36 ⟨w30.heap.size, 7, none⟩ = false := Blk.frozen QCb36 7
          have QCc368 : World.cell? w36 ⟨w30.heap.size, 8, none⟩ = some (.int .u64 0) := Blk.get QCb36 8 rfl
          have QCf368 : World.frozen? w36 ⟨w30.heap.size, 8, none⟩ = false := Blk.frozen QCb36 8
          have QCc369 : World.cell? w36 ⟨w30.heap.size, 9, none⟩ = some (.int .u64 0) := Blk.get QCb36 9 rfl
          have QCf369 : World.frozen? w36 ⟨w30.heap.size, 9, none⟩ = false := Blk.frozen QCb36 9
          have QCc3610 : World.cell? w36 ⟨w30.heap.size, 10, none⟩ = some (.int .u64 0) := Blk.get QCb36 10 rfl
          have QCf3610 : World.frozen? w36 ⟨w30.heap.size, 10, none⟩ = false := Blk.frozen QCb36 10
          have QCc3611 : World.cell? w36 ⟨w30.heap.size, 11, none⟩ = some (.int .u64 0) := Blk.get QCb36 11 rfl
          have QCf3611 : World.frozen? w36 ⟨w30.heap.size, 11, none⟩ = false := Blk.frozen QCb36 11
          have QCc3612 : World.cell? w36 ⟨w30.heap.size, 12, none⟩ = some (.int .u64 0) := Blk.get QCb36 12 rfl
          have QCf3612 : World.frozen? w36 ⟨w30.heap.size, 12, none⟩ = false := Blk.frozen QCb36 12
          have QCc3613 : World.cell? w36 ⟨w30.heap.size, 13, none⟩ = some (.int .u64 0) := Blk.get QCb36 13 rfl
          have QCf3613 : World.frozen? w36 ⟨w30.heap.size, 13, none⟩ = false := Blk.frozen QCb36 13
          have QCc3614 : World.cell? w36 ⟨w30.heap.size, 14, none⟩ = some (.int .u64 0) := Blk.get QCb36 14 rfl
          have QCf3614 : World.frozen? w36 ⟨w30.heap.size, 14, none⟩ = false := Blk.frozen QCb36 14
          have QCc3615 : World.cell? w36 ⟨w30.heap.size, 15, none⟩ = some (.int .u64 0) := Blk.get QCb36 15 rfl
          have QCf3615 : World.frozen? w36 ⟨w30.heap.size, 15, none⟩ = false := Blk.frozen QCb36 15
          have QCc3616 : World.cell? w36 ⟨w30.heap.size, 16, none⟩ = some (.int .i64 0) := Blk.get QCb36 16 rfl
          have QCf3616 : World.frozen? w36 ⟨w30.heap.size, 16, none⟩ = false := Blk.frozen QCb36 16
          have QCc3617 : World.cell? w36 ⟨w30.heap.size, 17, none⟩ = some (.int .i64 0) := Blk.get QCb36 17 rfl
          have QCf3617 : World.frozen? w36 ⟨w30.heap.size, 17, none⟩ = false := Blk.frozen QCb36 17
          have QCc3618 : World.cell? w36 ⟨w30.heap.size, 18, none⟩ = some (.int .i64 0) := Blk.get QCb36 18 rfl
          have QCf3618 : World.frozen? w36 ⟨w30.heap.size, 18, none⟩ = false := Blk.frozen QCb36 18
          have QCc3619 : World.cell? w36 ⟨w30.heap.size, 19, none⟩ = some (.int .u64 0) := Blk.get QCb36 19 rfl
          have QCf3619 : World.frozen? w36 ⟨w30.heap.size, 19, none⟩ = false := Blk.frozen QCb36 19
          have QCc3620 : World.cell? w36 ⟨w30.heap.size, 20, none⟩ = some (.int .i64 0) := Blk.get QCb36 20 rfl
          have QCf3620 : World.frozen? w36 ⟨w30.heap.size, 20, none⟩ = false := Blk.frozen QCb36 20
          have QCc3621 : World.cell? w36 ⟨w30.heap.size, 21, none⟩ = some (.int .i64 0) := Blk.get QCb36 21 rfl
          have QCf3621 : World.frozen? w36 ⟨w30.heap.size, 21, none⟩ = false := Blk.frozen QCb36 21
          have QCc3622 : World.cell? w36 ⟨w30.heap.size, 22, none⟩ = some (.int .u64 0) := Blk.get QCb36 22 rfl
          have QCf3622 : World.frozen? w36 ⟨w30.heap.size, 22, none⟩ = false := Blk.frozen QCb36 22
          have QCc3623 : World.cell? w36 ⟨w30.heap.size, 23, none⟩ = some (.int .u64 0) := Blk.get QCb36 23 rfl
          have QCf3623 : World.frozen? w36 ⟨w30.heap.size, 23, none⟩ = false := Blk.frozen QCb36 23
          have QCn36 := Blk.lt QCb36
          refine hK.out _ _ (KE.out _ hb36) (fun hH36 => ?_)
          clear hK K hH
          have hH := hH36
          clear hH36
          try simp only [Act.put, List.getElem_toArray, List.getElem_cons_succ, List.getElem_cons_zero, List.setIfInBounds_toArray, List.set_cons_zero, List.set_cons_succ]
          refine wpAnyH_ready (rs := [6]) (by kernel_rfl) (by simp) ?_
          refine (AllReadyH.cons rfl (fun K hK => ?_) AllReadyH.nil)
          rw [if_pos (by rfl)]
          refine wp_store_blk 32 _ _ rfl (wd.heap.size) (rowA cmdT 24 (ownC ka a)) _ rfl rfl 32 (QAb36) (by simp [rowA_size]) (by rw [rowA_size]; kernel_rfl) rowA_one ?_
          intro w37 hst37 hfr37
          have hb37 := Below.trans (hb36) (hfr37.below (Below.size (hb36)) (fun k hk e => by have := QGQA; omega))
          have QAb37 := hst37
          have QCb37 := Blk.fr (QCb36) hfr37 (by show ¬ (_ = _); first |assumption |exact Ne.symm (by assumption) |omega)
          refine hK.out _ _ (KE.out _ hb37) (fun hH37 => ?_)
          clear hK K hH
          have hH := hH37
          clear hH37
          try simp only [Act.put, List.getElem_toArray, List.getElem_cons_succ, List.getElem_cons_zero, List.setIfInBounds_toArray, List.set_cons_zero, List.set_cons_succ]
          refine wpAnyH_ready (rs := [7]) (by kernel_rfl) (by simp) ?_
          refine (AllReadyH.cons rfl (fun K hK => ?_) AllReadyH.nil)
          rw [if_pos (by rfl)]
          refine wp_store_blk 32 _ _ rfl (w30.heap.size) (rowA cmdT 24 (ownC kc c)) _ rfl rfl 32 (QCb37) (by simp [rowA_size]) (by rw [rowA_size]; kernel_rfl) rowA_one ?_
          intro w38 hst38 hfr38
          have hb38 := Below.trans (hb37) (hfr38.below (Below.size (hb37)) (fun k hk e => by have := QGQC; omega))
          have QCb38 := hst38
          have QAb38 := Blk.fr (QAb37) hfr38 (by show ¬ (_ = _); first |assumption |exact Ne.symm (by assumption) |omega)
          refine hK.out _ _ (KE.out _ hb38) (fun hH38 => ?_)
          clear hK K hH
          have hH := hH38
          clear hH38
          try simp only [Act.put, List.getElem_toArray, List.getElem_cons_succ, List.getElem_cons_zero, List.setIfInBounds_toArray, List.set_cons_zero, List.set_cons_succ]
          refine wpAnyH_done (by kernel_rfl) ?_ _
          refine NoPanic.normal ?_
          have p1 := QAb38
          have p2 := QCb38
          rw [zero_cmd, rowA_whole] at p1 p2
          have p3 := hl.out.next hb38
          go_wp2_with fail
          go_meet
          exact ⟨_, _, rfl, rfl, p1, p2, p3⟩
      · skip
        go_simp
        have NEQAQC39 : wd.heap.size ≠ wd.heap.size + 1 := Nat.ne_of_lt (Nat.lt_of_lt_of_eq (Blk.lt QAb29) (by simp))
        have QAb39 := Blk.alloc QAb29 (.cells #[.int .u8 0, .int .u64 0, .int .i64 0, .int .u64 0, .int .i64 0, .int .i64 0, .bool false, .int .u64 0, .int .u64 0, .int .u64 0, .int .u64 0, .int .u64 0, .int .u64 0, .int .u64 0, .int .u64 0, .int .u64 0, .int .i64 0, .int .i64 0, .int .i64 0, .int .u64 0, .int .i64 0, .int .i64 0, .int .u64 0, .int .u64 0] 32)
        have QCb39 : Blk ((wd.drew.alloc (.cells #[.int .u8 0, .int .u64 0, .int .i64 0, .int .u64 0, .int .i64 0, .int .i64 0, .bool false, .int .u64 0, .int .u64 0, .int .u64 0, .int .u64 0, .int .u64 0, .int .u64 0, .int .u64 0, .int .u64 0, .int .u64 0, .int .i64 0, .int .i64 0, .int .i64 0, .int .u64 0, .int .i64 0, .int .i64 0, .int .u64 0, .int .u64 0] 32)).alloc (.cells #[.int .u8 0, .int .u64 0, .int .i64 0, .int .u64 0, .int .i64 0, .int .i64 0, .bool false, .int .u64 0, .int .u64 0, .int .u64 0, .int .u64 0, .int .u64 0, .int .u64 0, .int .u64 0, .int .u64 0, .int .u64 0, .int .i64 0, .int .i64 0, .int .i64 0, .int .u64 0, .int .i64 0, .int .i64 0, .int .u64 0, .int .u64 0] 32)) (wd.heap.size + 1) 32 #[.int .u8 0, .int .u64 0, .int .i64 0, .int .u64 0, .int .i64 0, .int .i64 0, .bool false, .int .u64 0, .int .u64 0, .int .u64 0, .int .u64 0, .int .u64 0, .int .u64 0, .int .u64 0, .int .u64 0, .int .u64 0, .int .i64 0, .int .i64 0, .int .i64 0, .int .u64 0, .int .i64 0, .int .i64 0, .int .u64 0, .int .u64 0] := Blk.new_at (by simp)
        have QGQC : wd.heap.size ≤ wd.heap.size + 1 := Nat.le_trans (Below.size (hb29)) (Nat.le_of_eq (by simp))
        have hb39 := Below.alloc (hb29) (Below.size (hb29)) (.cells #[.int .u8 0, .int .u64 0, .int .i64 0, .int .u64 0, .int .i64 0, .int .i64 0, .bool false, .int .u64 0, .int .u64 0, .int .u64 0, .int .u64 0, .int .u64 0, .int .u64 0, .int .u64 0, .int .u64 0, .int .u64 0, .int .i64 0, .int .i64 0, .int .i64 0, .int .u64 0, .int .i64 0, .int .i64 0, .int .u64 0, .int .u64 0] 32)
        refine hK.out _ _ (KE.out _ hb39) (fun hH39 => ?_)
        clear hK K hH
        have hH := hH39
        clear hH39
        try simp only [Act.put, List.getElem_toArray, List.getElem_cons_succ, List.getElem_cons_zero, List.setIfInBounds_toArray, List.set_cons_zero, List.set_cons_succ]
        refine wpAnyH_ready (rs := [1]) (by kernel_rfl) (by simp) ?_
        refine (AllReadyH.cons rfl (fun K hK => ?_) AllReadyH.nil)
        go_simp
        with_reducible refine (cmd_own a _ ka HAC.out.1).mono ?_
        rintro e w40 ⟨rfl, hb40'⟩
        have hb40 : Below (wd.heap.size) wd w40 := below_next hH.2 hb40'
        try go_wp2_with fail
        have QAb40 := Blk.next QAb39 hb40'
        have QAc400 : World.cell? w40 ⟨wd.heap.size, 0, none⟩ = some (.int .u8 0) := Blk.get QAb40 0 rfl
        have QAf400 : World.frozen? w40 ⟨wd.heap.size, 0, none⟩ = false := Blk.frozen QAb40 0
        have QAc401 : World.cell? w40 ⟨wd.heap.size, 1, none⟩ = some (.int .u64 0) := Blk.get QAb40 1 rfl
        have QAf401 : World.frozen? w40 ⟨wd.heap.size, 1, none⟩ = false := Blk.frozen QAb40 1
        have QAc402 : World.cell? w40 ⟨wd.heap.size, 2, none⟩ = some (.int .i64 0) := Blk.get QAb40 2 rfl
        have QAf402 : World.frozen? w40 ⟨wd.heap.size, 2, none⟩ = false := Blk.frozen QAb40 2
        have QAc403 : World.cell? w40 ⟨wd.heap.size, 3, none⟩ = some (.int .u64 0) := Blk.get QAb40 3 rfl
        have QAf403 : World.frozen? w40 ⟨wd.heap.size, 3, none⟩ = false := Blk.frozen QAb40 3
        have QAc404 : World.cell? w40 ⟨wd.heap.size, 4, none⟩ = some (.int .i64 0) := Blk.get QAb40 4 rfl
        have QAf404 : World.frozen? w40 ⟨wd.heap.size, 4, none⟩ = false := Blk.frozen QAb40 4
        have QAc405 : World.cell? w40 ⟨wd.heap.size, 5, none⟩ = some (.int .i64 0) := Blk.get QAb40 5 rfl
        have QAf405 : World.frozen? w40 ⟨wd.heap.size, 5, none⟩ = false := Blk.frozen QAb40 5
        have QAc406 : World.cell? w40 ⟨wd.heap.size, 6, none⟩ = some (.bool false) := Blk.get QAb40 6 rfl
        have QAf406 : World.frozen? w40 ⟨wd.heap.size, 6, none⟩ = false := Blk.frozen QAb40 6
        have QAc407 : World.cell? w40 ⟨wd.heap.size, 7, none⟩ = some (.int .u64 0) := Blk.get QAb40 7 rfl
        have QAf407 : World.frozen? w40 ⟨wd.heap.size, 7, none⟩ = false := Blk.frozen QAb40 7
        have QAc408 : World.cell? w40 ⟨wd.heap.size, 8, none⟩ = some (.int .u64 0) := Blk.get QAb40 8 rfl
        have QAf408 : World.frozen? w40 ⟨wd.heap.size, 8, none⟩ = false := Blk.frozen QAb40 8
        have QAc409 : World.cell? w40 ⟨wd.heap.size, 9, none⟩ = some (.int .u64 0) := Blk.get QAb40 9 rfl
        have QAf409 : World.frozen? w40 ⟨wd.heap.size, 9, none⟩ = false := Blk.frozen QAb40 9
        have QAc4010 : World.cell? w40 ⟨wd.heap.size, 10, none⟩ = some (.int .u64 0) := Blk.get QAb40 10 rfl
        have QAf4010 : World.frozen? w40 ⟨wd.heap.size, 10, none⟩ = false := Blk.frozen QAb40 10
        have QAc4011 : World.cell? w40 ⟨wd.heap.size, 11, none⟩ = some (.int .u64 0) := Blk.get QAb40 11 rfl
        have QAf4011 : World.frozen? w40 ⟨wd.heap.size, 11, none⟩ = false := Blk.frozen QAb40 11
        have QAc4012 : World.cell? w40 ⟨wd.heap.size, 12, none⟩ = some (.int .u64 0) := Blk.get QAb40 12 rfl
        have QAf4012 : World.frozen? w40 ⟨wd.heap.size, 12, none⟩ = false := Blk.frozen QAb40 12
        have QAc4013 : World.cell? w40 ⟨wd.heap.size, 13, none⟩ = some (.int .u64 0) := Blk.get QAb40 13 rfl
        have QAf4013 : World.frozen? w40 ⟨wd.heap.size, 13, none⟩ = false := Blk.frozen QAb40 13
        have QAc4014 : World.cell? w40 ⟨wd.heap.size, 14, none⟩ = some (.int .u64 0) := Blk.get QAb40 14 rfl
        have QAf4014 : World.frozen? w40 ⟨wd.heap.size, 14, none⟩ = false := Blk.frozen QAb40 14
        have QAc4015 : World.cell? w40 ⟨wd.heap.size, 15, none⟩ = some (.int .u64 0) := Blk.get QAb40 15 rfl
        have QAf4015 : World.frozen? w40 ⟨wd.heap.size, 15, none⟩ = false := Blk.frozen QAb40 15
        have QAc4016 : World.cell? w40 ⟨wd.heap.size, 16, none⟩ = some (.int .i64 0) := Blk.get QAb40 16 rfl
        have QAf4016 : World.frozen? w40 ⟨wd.heap.size, 16, none⟩ = false := Blk.frozen QAb40 16
        have QAc4017 : World.cell? w40 ⟨wd.heap.size, 17, none⟩ = some (.int .i64 0) := Blk.get QAb40 17 rfl
        have QAf4017 : World.frozen? w40 ⟨wd.heap.size, 17, none⟩ = false := Blk.frozen QAb40 17
        have QAc4018 : World.cell? w40 ⟨wd.heap.size, 18, none⟩ = some (.int .i64 0) := Blk.get QAb40 18 rfl
        have QAf4018 : World.frozen? w40 ⟨wd.heap.size, 18, none⟩ = false := Blk.frozen QAb40 18
        have QAc4019 : World.cell? w40 ⟨wd.heap.size, 19, none⟩ = some (.int .u64 0) := Blk.get QAb40 19 rfl
        have QAf4019 : World.frozen? w40 ⟨wd.heap.size, 19, none⟩ = false := Blk.frozen QAb40 19
        have QAc4020 : World.cell? w40 ⟨wd.heap.size, 20, none⟩ = some (.int .i64 0) := Blk.get QAb40 20 rfl
        have QAf4020 : World.frozen? w40 ⟨wd.heap.size, 20, none⟩ = false := Blk.frozen QAb40 20
        have QAc4021 : World.cell? w40 ⟨wd.heap.size, 21, none⟩ = some (.int .i64 0) := Blk.get QAb40 21 rfl
        have QAf4021 : World.frozen? w40 ⟨wd.heap.size, 21, none⟩ = false := Blk.frozen QAb40 21
        have QAc4022 : World.cell? w40 ⟨wd.heap.size, 22, none⟩ = some (.int .u64 0) := Blk.get QAb40 22 rfl
        have QAf4022 : World.frozen? w40 ⟨wd.heap.size, 22, none⟩ = false := Blk.frozen QAb40 22
        have QAc4023 : World.cell? w40 ⟨wd.heap.size, 23, none⟩ = some (.int .u64 0) := Blk.get QAb40 23 rfl
        have QAf4023 : World.frozen? w40 ⟨wd.heap.size, 23, none⟩ = false := Blk.frozen QAb40 23
        have QAn40 := Blk.lt QAb40
        have QCb40 := Blk.next QCb39 hb40'
        have QCc400 : World.cell? w40 ⟨wd.heap.size + 1, 0, none⟩ = some (.int .u8 0) := Blk.get QCb40 0 rfl
        have QCf400 : World.frozen? w40 ⟨wd.heap.size + 1, 0, none⟩ = false := Blk.frozen QCb40 0
        have QCc401 : World.cell? w40 ⟨wd.heap.size + 1, 1, none⟩ = some (.int .u64 0) := Blk.get QCb40 1 rfl
        have QCf401 : World.frozen? w40 ⟨wd.heap.size + 1, 1, none⟩ = false := Blk.frozen QCb40 1
        have QCc402 : World.cell? w40 ⟨wd.heap.size + 1, 2, none⟩ = some (.int .i64 0) := Blk.get QCb40 2 rfl
        have QCf402 : World.frozen? w40 ⟨wd.heap.size + 1, 2, none⟩ = false := Blk.frozen QCb40 2
        have QCc403 : World.cell? w40 ⟨wd.heap.size + 1, 3, none⟩ = some (.int .u64 0) := Blk.get QCb40 3 rfl
        have QCf403 : World.frozen? w40 ⟨wd.heap.size + 1, 3, none⟩ = false := Blk.frozen QCb40 3
        have QCc404 : World.cell? w40 ⟨wd.heap.size + 1, 4, none⟩ = some (.int .i64 0) := Blk.get QCb40 4 rfl
        have QCf404 : World.frozen? w40 ⟨wd.heap.size + 1, 4, none⟩ = false := Blk.frozen QCb40 4
        have QCc405 : World.cell? w40 ⟨wd.heap.size + 1, 5, none⟩ = some (.int .i64 0) := Blk.get QCb40 5 rfl
        have QCf405 : World.frozen? w40 ⟨wd.heap.size + 1, 5, none⟩ = false := Blk.frozen QCb40 5
        have QCc406 : World.cell? w40 ⟨wd.heap.size + 1, 6, none⟩ = some (.bool false) := Blk.get QCb40 6 rfl
        have QCf406 : World.frozen? w40 ⟨wd.heap.size + 1, 6, none⟩ = false := Blk.frozen QCb40 6
        have QCc407 : World.cell? w40 ⟨wd.heap.size + 1, 7, none⟩ = some (.int .u64 0) := Blk.get QCb40 7 rfl
        have QCf407 : World.frozen? w40 ⟨wd.heap.size + 1, 7, none⟩ = false := Blk.frozen QCb40 7
        have QCc408 : World.cell? w40 ⟨wd.heap.size + 1, 8, none⟩ = some (.int .u64 0) := Blk.get QCb40 8 rfl
        have QCf408 : World.frozen? w40 ⟨wd.heap.size + 1, 8, none⟩ = false := Blk.frozen QCb40 8
        have QCc409 : World.cell? w40 ⟨wd.heap.size + 1, 9, none⟩ = some (.int .u64 0) := Blk.get QCb40 9 rfl
        have QCf409 : World.frozen? w40 ⟨wd.heap.size + 1, 9, none⟩ = false := Blk.frozen QCb40 9
        have QCc4010 : World.cell? w40 ⟨wd.heap.size + 1, 10, none⟩ = some (.int .u64 0) := Blk.get QCb40 10 rfl
        have QCf4010 : World.frozen? w40 ⟨wd.heap.size + 1, 10, none⟩ = false := Blk.frozen QCb40 10
        have QCc4011 : World.cell? w40 ⟨wd.heap.size + 1, 11, none⟩ = some (.int .u64 0) := Blk.get QCb40 11 rfl
        have QCf4011 : World.frozen? w40 ⟨wd.heap.size + 1, 11, none⟩ = false := Blk.frozen QCb40 11
        have QCc4012 : World.cell? w40 ⟨wd.heap.size + 1, 12, none⟩ = some (.int .u64 0) := Blk.get QCb40 12 rfl
        have QCf4012 : World.frozen? w40 ⟨wd.heap.size + 1, 12, none⟩ = false := Blk.frozen QCb40 12
        have QCc4013 : World.cell? w40 ⟨wd.heap.size + 1, 13, none⟩ = some (.int .u64 0) := Blk.get QCb40 13 rfl
        have QCf4013 : World.frozen? w40 ⟨wd.heap.size + 1, 13, none⟩ = false := Blk.frozen QCb40 13
        have QCc4014 : World.cell? w40 ⟨wd.heap.size + 1, 14, none⟩ = some (.int .u64 0) := Blk.get QCb40 14 rfl
        have QCf4014 : World.frozen? w40 ⟨wd.heap.size + 1, 14, none⟩ = false := Blk.frozen QCb40 14
        have QCc4015 : World.cell? w40 ⟨wd.heap.size + 1, 15, none⟩ = some (.int .u64 0) := Blk.get QCb40 15 rfl
        have QCf4015 : World.frozen? w40 ⟨wd.heap.size + 1, 15, none⟩ = false := Blk.frozen QCb40 15
        have QCc4016 : World.cell? w40 ⟨wd.heap.size + 1, 16, none⟩ = some (.int .i64 0) := Blk.get QCb40 16 rfl
        have QCf4016 : World.frozen? w40 ⟨wd.heap.size + 1, 16, none⟩ = false := Blk.frozen QCb40 16
        have QCc4017 : World.cell? w40 ⟨wd.heap.size + 1, 17, none⟩ = some (.int .i64 0) := Blk.get QCb40 17 rfl
        have QCf4017 : World.frozen? w40 ⟨wd.heap.size + 1, 17, none⟩ = false := Blk.frozen QCb40 17
        have QCc4018 : World.cell? w40 ⟨wd.heap.size + 1, 18, none⟩ = some (.int .i64 0) := Blk.get QCb40 18 rfl
        have QCf4018 : World.frozen? w40 ⟨wd.heap.size + 1, 18, none⟩ = false := Blk.frozen QCb40 18
        have QCc4019 : World.cell? w40 ⟨wd.heap.size + 1, 19, none⟩ = some (.int .u64 0) := Blk.get QCb40 19 rfl
        have QCf4019 : World.frozen? w40 ⟨wd.heap.size + 1, 19, none⟩ = false := Blk.frozen QCb40 19
        have QCc4020 : World.cell? w40 ⟨wd.heap.size + 1, 20, none⟩ = some (.int .i64 0) := Blk.get QCb40 20 rfl
        have QCf4020 : World.frozen? w40 ⟨wd.heap.size + 1, 20, none⟩ = false := Blk.frozen QCb40 20
        have QCc4021 : World.cell? w40 ⟨wd.heap.size + 1, 21, none⟩ = some (.int .i64 0) := Blk.get QCb40 21 rfl
        have QCf4021 : World.frozen? w40 ⟨wd.heap.size + 1, 21, none⟩ = false := Blk.frozen QCb40 21
        have QCc4022 : World.cell? w40 ⟨wd.heap.size + 1, 22, none⟩ = some (.int .u64 0) := Blk.get QCb40 22 rfl
        have QCf4022 : World.frozen? w40 ⟨wd.heap.size + 1, 22, none⟩ = false := Blk.frozen QCb40 22
        have QCc4023 : World.cell? w40 ⟨wd.heap.size + 1, 23, none⟩ = some (.int .u64 0) := Blk.get QCb40 23 rfl
        have QCf4023 : World.frozen? w40 ⟨wd.heap.size + 1, 23, none⟩ = false := Blk.frozen QCb40 23
        have QCn40 := Blk.lt QCb40
        refine hK.out _ _ (KE.out _ hb40) (fun hH40 => ?_)
        clear hK K hH
        have hH := hH40
        clear hH40
        try simp only [Act.put, List.getElem_toArray, List.getElem_cons_succ, List.getElem_cons_zero, List.setIfInBounds_toArray, List.set_cons_zero, List.set_cons_succ]
        refine wpAnyH_ready (rs := [3]) (by kernel_rfl) (by simp) ?_
        refine (AllReadyH.cons rfl (fun K hK => ?_) AllReadyH.nil)
        go_simp
        with_reducible refine (cmd_own c _ kc HAC.out.2).mono ?_
        rintro e w41 ⟨rfl, hb41'⟩
        have hb41 : Below (wd.heap.size) wd w41 := below_next hH.2 hb41'
        try go_wp2_with fail
        have QAb41 := Blk.next QAb40 hb41'
        have QAc410 : World.cell? w41 ⟨wd.heap.size, 0, none⟩ = some (.int .u8 0) := Blk.get QAb41 0 rfl
        have QAf410 : World.frozen? w41 ⟨wd.heap.size, 0, none⟩ = false := Blk.frozen QAb41 0
        have QAc411 : World.cell? w41 ⟨wd.heap.size, 1, none⟩ = some (.int .u64 0) := Blk.get QAb41 1 rfl
        have QAf411 : World.frozen? w41 ⟨wd.heap.size, 1, none⟩ = false := Blk.frozen QAb41 1
        have QAc412 : World.cell? w41 ⟨wd.heap.size, 2, none⟩ = some (.int .i64 0) := Blk.get QAb41 2 rfl
        have QAf412 : World.frozen? w41 ⟨wd.heap.size, 2, none⟩ = false := Blk.frozen QAb41 2
        have QAc413 : World.cell? w41 ⟨wd.heap.size, 3, none⟩ = some (.int .u64 0) := Blk.get QAb41 3 rfl
        have QAf413 : World.frozen? w41 ⟨wd.heap.size, 3, none⟩ = false := Blk.frozen QAb41 3
        have QAc414 : World.cell? w41 ⟨wd.heap.size, 4, none⟩ = some (.int .i64 0) := Blk.get QAb41 4 rfl
        have QAf414 : World.frozen? w41 ⟨wd.heap.size, 4, none⟩ = false := Blk.frozen QAb41 4
        have QAc415 : World.cell? w41 ⟨wd.heap.size, 5, none⟩ = some (.int .i64 0) := Blk.get QAb41 5 rfl
        have QAf415 : World.frozen? w41 ⟨wd.heap.size, 5, none⟩ = false := Blk.frozen QAb41 5
        have QAc416 : World.cell? w41 ⟨wd.heap.size, 6, none⟩ = some (.bool false) := Blk.get QAb41 6 rfl
        have QAf416 : World.frozen? w41 ⟨wd.heap.size, 6, none⟩ = false := Blk.frozen QAb41 6
        have QAc417 : World.cell? w41 ⟨wd.heap.size, 7, none⟩ = some (.int .u64 0) := Blk.get QAb41 7 rfl
        have QAf417 : World.frozen? w41 ⟨wd.heap.size, 7, none⟩ = false := Blk.frozen QAb41 7
        have QAc418 : World.cell? w41 ⟨wd.heap.size, 8, none⟩ = some (.int .u64 0) := Blk.get QAb41 8 rfl
        have QAf418 : World.frozen? w41 ⟨wd.heap.size, 8, none⟩ = false := Blk.frozen QAb41 8
        have QAc419 : World.cell? w41 ⟨wd.heap.size, 9, none⟩ = some (.int .u64 0) := Blk.get QAb41 9 rfl
        have QAf419 : World.frozen? w41 ⟨wd.heap.size, 9, none⟩ = false := Blk.frozen QAb41 9
        have QAc4110 : World.cell? w41 ⟨wd.heap.size, 10, none⟩ = some (.int .u64 0) := Blk.get QAb41 10 rfl
        have QAf4110 : World.frozen? w41 ⟨wd.heap.size, 10, none⟩ = false := Blk.frozen QAb41 10
        have QAc4111 : World.cell? w41 ⟨wd.heap.size, 11, none⟩ = some (.int .u64 0) := Blk.get QAb41 11 rfl
        have QAf4111 : World.frozen? w41 ⟨wd.heap.size, 11, none⟩ = false := Blk.frozen QAb41 11
        have QAc4112 : World.cell? w41 ⟨wd.heap.size, 12, none⟩ = some (.int .u64 0) := Blk.get QAb41 12 rfl
        have QAf4112 : World.frozen? w41 ⟨wd.heap.size, 12, none⟩ = false := Blk.frozen QAb41 12
        have QAc4113 : World.cell? w41 ⟨wd.heap.size, 13, none⟩ = some (.int .u64 0) := Blk.get QAb41 13 rfl
        have QAf4113 : World.frozen? w41 ⟨wd.heap.size, 13, none⟩ = false := Blk.frozen QAb41 13
        have QAc4114 : World.cell? w41 ⟨wd.heap.size, 14, none⟩ = some (.int .u64 0) := Blk.get QAb41 14 rfl
        have QAf4114 : World.frozen? w41 ⟨wd.heap.size, 14, none⟩ = false := Blk.frozen QAb41 14
        have QAc4115 : World.cell? w41 ⟨wd.heap.size, 15, none⟩ = some (.int .u64 0) := Blk.get QAb41 15 rfl
        have QAf4115 : World.frozen? w41 ⟨wd.heap.size, 15, none⟩ = false := Blk.frozen QAb41 15
        have QAc4116 : World.cell? w41 ⟨wd.heap.size, 16, none⟩ = some (.int .i64 0) := Blk.get QAb41 16 rfl
        have QAf4116 : World.frozen? w41 ⟨wd.heap.size, 16, none⟩ = false := Blk.frozen QAb41 16
        have QAc4117 : World.cell? w41 ⟨wd.heap.size, 17, none⟩ = some (.int .i64 0) := Blk.get QAb41 17 rfl
        have QAf4117 : World.frozen? w41 ⟨wd.heap.size, 17, none⟩ = false := Blk.frozen QAb41 17
        have QAc4118 : World.cell? w41 ⟨wd.heap.size, 18, none⟩ = some (.int .i64 0) := Blk.get QAb41 18 rfl
        have QAf4118 : World.frozen? w41 ⟨wd.heap.size, 18, none⟩ = false := Blk.frozen QAb41 18
        have QAc4119 : World.cell? w41 ⟨wd.heap.size, 19, none⟩ = some (.int .u64 0) := Blk.get QAb41 19 rfl
        have QAf4119 : World.frozen? w41 ⟨wd.heap.size, 19, none⟩ = false := Blk.frozen QAb41 19
        have QAc4120 : World.cell? w41 ⟨wd.heap.size, 20, none⟩ = some (.int .i64 0) := Blk.get QAb41 20 rfl
        have QAf4120 : World.frozen? w41 ⟨wd.heap.size, 20, none⟩ = false := Blk.frozen QAb41 20
        have QAc4121 : World.cell? w41 ⟨wd.heap.size, 21, none⟩ = some (.int .i64 0) := Blk.get QAb41 21 rfl
        have QAf4121 : World.frozen? w41 ⟨wd.heap.size, 21, none⟩ = false := Blk.frozen QAb41 21
        have QAc4122 : World.cell? w41 ⟨wd.heap.size, 22, none⟩ = some (.int .u64 0) := Blk.get QAb41 22 rfl
        have QAf4122 : World.frozen? w41 ⟨wd.heap.size, 22, none⟩ = false := Blk.frozen QAb41 22
        have QAc4123 : World.cell? w41 ⟨wd.heap.size, 23, none⟩ = some (.int .u64 0) := Blk.get QAb41 23 rfl
        have QAf4123 : World.frozen? w41 ⟨wd.heap.size, 23, none⟩ = false := Blk.frozen QAb41 23
        have QAn41 := Blk.lt QAb41
        have QCb41 := Blk.next QCb40 hb41'
        have QCc410 : World.cell? w41 ⟨wd.heap.size + 1, 0, none⟩ = some (.int .u8 0) := Blk.get QCb41 0 rfl
        have QCf410 : World.frozen? w41 ⟨wd.heap.size + 1, 0, none⟩ = false := Blk.frozen QCb41 0
        have QCc411 : World.cell? w41 ⟨wd.heap.size + 1, 1, none⟩ = some (.int .u64 0) := Blk.get QCb41 1 rfl
        have QCf411 : World.frozen? w41 ⟨wd.heap.size + 1, 1, none⟩ = false := Blk.frozen QCb41 1
        have QCc412 : World.cell? w41 ⟨wd.heap.size + 1, 2, none⟩ = some (.int .i64 0) := Blk.get QCb41 2 rfl
        have QCf412 : World.frozen? w41 ⟨wd.heap.size + 1, 2, none⟩ = false := Blk.frozen QCb41 2
        have QCc413 : World.cell? w41 ⟨wd.heap.size + 1, 3, none⟩ = some (.int .u64 0) := Blk.get QCb41 3 rfl
        have QCf413 : World.frozen? w41 ⟨wd.heap.size + 1, 3, none⟩ = false := Blk.frozen QCb41 3
        have QCc414 : World.cell? w41 ⟨wd.heap.size + 1, 4, none⟩ = some (.int .i64 0) := Blk.get QCb41 4 rfl
        have QCf414 : World.frozen? w41 ⟨wd.heap.size + 1, 4, none⟩ = false := Blk.frozen QCb41 4
        have QCc415 : World.cell? w41 ⟨wd.heap.size + 1, 5, none⟩ = some (.int .i64 0) := Blk.get QCb41 5 rfl
        have QCf415 : World.frozen? w41 ⟨wd.heap.size + 1, 5, none⟩ = false := Blk.frozen QCb41 5
        have QCc416 : World.cell? w41 ⟨wd.heap.size + 1, 6, none⟩ = some (.bool false) := Blk.get QCb41 6 rfl
        have QCf416 : World.frozen? w41 ⟨wd.heap.size + 1, 6, none⟩ = false := Blk.frozen QCb41 6
        have QCc417 : World.cell? w41 ⟨wd.heap.size + 1, 7, none⟩ = some (.int .u64 0) := Blk.get QCb41 7 rfl
        have QCf417 : World.frozen? w41 ⟨wd.heap.size + 1, 7, none⟩ = false := Blk.frozen QCb41 7
        have QCc418 : World.cell? w41 ⟨wd.heap.size + 1, 8, none⟩ = some (.int .u64 0) := Blk.get QCb41 8 rfl
        have QCf418 : World.frozen? w41 ⟨wd.heap.size + 1, 8, none⟩ = false := Blk.frozen QCb41 8
        have QCc419 : World.cell? w41 ⟨wd.heap.size + 1, 9, none⟩ = some (.int .u64 0) := Blk.get QCb41 9 rfl
        have QCf419 : World.frozen? w41 ⟨wd.heap.size + 1, 9, none⟩ = false := Blk.frozen QCb41 9
        have QCc4110 : World.cell? w41 ⟨wd.heap.size + 1, 10, none⟩ = some (.int .u64 0) := Blk.get QCb41 10 rfl
        have QCf4110 : World.frozen? w41 ⟨wd.heap.size + 1, 10, none⟩ = false := Blk.frozen QCb41 10
        have QCc4111 : World.cell? w41 ⟨wd.heap.size + 1, 11, none⟩ = some (.int .u64 0) := Blk.get QCb41 11 rfl
        have QCf4111 : World.frozen? w41 ⟨wd.heap.size + 1, 11, none⟩ = false := Blk.frozen QCb41 11
        have QCc4112 : World.cell? w41 ⟨wd.heap.size + 1, 12, none⟩ = some (.int .u64 0) := Blk.get QCb41 12 rfl
        have QCf4112 : World.frozen? w41 ⟨wd.heap.size + 1, 12, none⟩ = false := Blk.frozen QCb41 12
        have QCc4113 : World.cell? w41 ⟨wd.heap.size + 1, 13, none⟩ = some (.int .u64 0) := Blk.get QCb41 13 rfl
        have QCf4113 : World.frozen? w41 ⟨wd.heap.size + 1, 13, none⟩ = false := Blk.frozen QCb41 13
        have QCc4114 : World.cell? w41 ⟨wd.heap.size + 1, 14, none⟩ = some (.int .u64 0) := Blk.get QCb41 14 rfl
        have QCf4114 : World.frozen? w41 ⟨wd.heap.size + 1, 14, none⟩ = false := Blk.frozen QCb41 14
        have QCc4115 : World.cell? w41 ⟨wd.heap.size + 1, 15, none⟩ = some (.int .u64 0) := Blk.get QCb41 15 rfl
        have QCf4115 : World.frozen? w41 ⟨wd.heap.size + 1, 15, none⟩ = false := Blk.frozen QCb41 15
        have QCc4116 : World.cell? w41 ⟨wd.heap.size + 1, 16, none⟩ = some (.int .i64 0) := Blk.get QCb41 16 rfl
        have QCf4116 : World.frozen? w41 ⟨wd.heap.size + 1, 16, none⟩ = false := Blk.frozen QCb41 16
        have QCc4117 : World.cell? w41 ⟨wd.heap.size + 1, 17, none⟩ = some (.int .i64 0) := Blk.get QCb41 17 rfl
        have QCf4117 : World.frozen? w41 ⟨wd.heap.size + 1, 17, none⟩ = false := Blk.frozen QCb41 17
        have QCc4118 : World.cell? w41 ⟨wd.heap.size + 1, 18, none⟩ = some (.int .i64 0) := Blk.get QCb41 18 rfl
        have QCf4118 : World.frozen? w41 ⟨wd.heap.size + 1, 18, none⟩ = false := Blk.frozen QCb41 18
        have QCc4119 : World.cell? w41 ⟨wd.heap.size + 1, 19, none⟩ = some (.int .u64 0) := Blk.get QCb41 19 rfl
        have QCf4119 : World.frozen? w41 ⟨wd.heap.size + 1, 19, none⟩ = false := Blk.frozen QCb41 19
        have QCc4120 : World.cell? w41 ⟨wd.heap.size + 1, 20, none⟩ = some (.int .i64 0) := Blk.get QCb41 20 rfl
        have QCf4120 : World.frozen? w41 ⟨wd.heap.size + 1, 20, none⟩ = false := Blk.frozen QCb41 20
        have QCc4121 : World.cell? w41 ⟨wd.heap.size + 1, 21, none⟩ = some (.int .i64 0) := Blk.get QCb41 21 rfl
        have QCf4121 : World.frozen? w41 ⟨wd.heap.size + 1, 21, none⟩ = false := Blk.frozen QCb41 21
        have QCc4122 : World.cell? w41 ⟨wd.heap.size + 1, 22, none⟩ = some (.int .u64 0) := Blk.get QCb41 22 rfl
        have QCf4122 : World.frozen? w41 ⟨wd.heap.size + 1, 22, none⟩ = false := Blk.frozen QCb41 22
        have QCc4123 : World.cell? w41 ⟨wd.heap.size + 1, 23, none⟩ = some (.int .u64 0) := Blk.get QCb41 23 rfl
        have QCf4123 : World.frozen? w41 ⟨wd.heap.size + 1, 23, none⟩ = false := Blk.frozen QCb41 23
        have QCn41 := Blk.lt QCb41
        refine hK.out _ _ (KE.out _ hb41) (fun hH41 => ?_)
        clear hK K hH
        have hH := hH41
        clear hH41
        try simp only [Act.put, List.getElem_toArray, List.getElem_cons_succ, List.getElem_cons_zero, List.setIfInBounds_toArray, List.set_cons_zero, List.set_cons_succ]
        refine wpAnyH_ready (rs := [6]) (by kernel_rfl) (by simp) ?_
        refine (AllReadyH.cons rfl (fun K hK => ?_) AllReadyH.nil)
        rw [if_pos (by rfl)]
        refine wp_store_blk 32 _ _ rfl (wd.heap.size) (rowA cmdT 24 (ownC ka a)) _ rfl rfl 32 (QAb41) (by simp [rowA_size]) (by rw [rowA_size]; kernel_rfl) rowA_one ?_
        intro w42 hst42 hfr42
        have hb42 := Below.trans (hb41) (hfr42.below (Below.size (hb41)) (fun k hk e => by have := QGQA; omega))
        have QAb42 := hst42
        have QCb42 := Blk.fr (QCb41) hfr42 (by show ¬ (_ = _); first |assumption |exact Ne.symm (by assumption) |omega)
        refine hK.out _ _ (KE.out _ hb42) (fun hH42 => ?_)
        clear hK K hH
        have hH := hH42
        clear hH42
        try simp only [Act.put, List.getElem_toArray, List.getElem_cons_succ, List.getElem_cons_zero, List.setIfInBounds_toArray, List.set_cons_zero, List.set_cons_succ]
        refine wpAnyH_ready (rs := [7]) (by kernel_rfl) (by simp) ?_
        refine (AllReadyH.cons rfl (fun K hK => ?_) AllReadyH.nil)
        rw [if_pos (by rfl)]
        refine wp_store_blk 32 _ _ rfl (wd.heap.size + 1) (rowA cmdT 24 (ownC kc c)) _ rfl rfl 32 (QCb42) (by simp [rowA_size]) (by rw [rowA_size]; kernel_rfl) rowA_one ?_
        intro w43 hst43 hfr43
        have hb43 := Below.trans (hb42) (hfr43.below (Below.size (hb42)) (fun k hk e => by have := QGQC; omega))
        have QCb43 := hst43
        have QAb43 := Blk.fr (QAb42) hfr43 (by show ¬ (_ = _); first |assumption |exact Ne.symm (by assumption) |omega)
        refine hK.out _ _ (KE.out _ hb43) (fun hH43 => ?_)
        clear hK K hH
        have hH := hH43
        clear hH43
        try simp only [Act.put, List.getElem_toArray, List.getElem_cons_succ, List.getElem_cons_zero, List.setIfInBounds_toArray, List.set_cons_zero, List.set_cons_succ]
        refine wpAnyH_done (by kernel_rfl) ?_ _
        refine NoPanic.normal ?_
        have p1 := QAb43
        have p2 := QCb43
        rw [zero_cmd, rowA_whole] at p1 p2
        have p3 := hl.out.next hb43
        go_wp2_with fail
        go_meet
        exact ⟨_, _, rfl, rfl, p1, p2, p3⟩
    · skip
      go_simp
      have QCb44 : Blk (wd.drew.alloc (.cells #[.int .u8 0, .int .u64 0, .int .i64 0, .int .u64 0, .int .i64 0, .int .i64 0, .bool false, .int .u64 0, .int .u64 0, .int .u64 0, .int .u64 0, .int .u64 0, .int .u64 0, .int .u64 0, .int .u64 0, .int .u64 0, .int .i64 0, .int .i64 0, .int .i64 0, .int .u64 0, .int .i64 0, .int .i64 0, .int .u64 0, .int .u64 0] 32)) (wd.heap.size) 32 #[.int .u8 0, .int .u64 0, .int .i64 0, .int .u64 0, .int .i64 0, .int .i64 0, .bool false, .int .u64 0, .int .u64 0, .int .u64 0, .int .u64 0, .int .u64 0, .int .u64 0, .int .u64 0, .int .u64 0, .int .u64 0, .int .i64 0, .int .i64 0, .int .i64 0, .int .u64 0, .int .i64 0, .int .i64 0, .int .u64 0, .int .u64 0] := Blk.new_at (by simp)
      have QGQC : wd.heap.size ≤ wd.heap.size := Nat.le_trans (Below.size (hbR)) (Nat.le_of_eq (by simp))
      have hb44 := Below.alloc (hbR) (Below.size (hbR)) (.cells #[.int .u8 0, .int .u64 0, .int .i64 0, .int .u64 0, .int .i64 0, .int .i64 0, .bool false, .int .u64 0, .int .u64 0, .int .u64 0, .int .u64 0, .int .u64 0, .int .u64 0, .int .u64 0, .int .u64 0, .int .u64 0, .int .i64 0, .int .i64 0, .int .i64 0, .int .u64 0, .int .i64 0, .int .i64 0, .int .u64 0, .int .u64 0] 32)
      refine hK.out _ _ (KE.out _ hb44) (fun hH44 => ?_)
      clear hK K hH
      have hH := hH44
      clear hH44
      try simp only [Act.put, List.getElem_toArray, List.getElem_cons_succ, List.getElem_cons_zero, List.setIfInBounds_toArray, List.set_cons_zero, List.set_cons_succ]
      refine wpAnyH_ready (rs := [1, 4]) (by kernel_rfl) (by simp) ?_
      refine (AllReadyH.cons rfl (fun K hK => ?_) (AllReadyH.cons rfl (fun K hK => ?_) AllReadyH.nil))
      · skip
        go_simp
        with_reducible refine (cmd_own a _ ka HAC.out.1).mono ?_
        rintro e w45 ⟨rfl, hb45'⟩
        have hb45 : Below (wd.heap.size) wd w45 := below_next hH.2 hb45'
        try go_wp2_with fail
        have QCb45 := Blk.next QCb44 hb45'
        have QCc450 : World.cell? w45 ⟨wd.heap.size, 0, none⟩ = some (.int .u8 0) := Blk.get QCb45 0 rfl
        have QCf450 : World.frozen? w45 ⟨wd.heap.size, 0, none⟩ = false := Blk.frozen QCb45 0
        have QCc451 : World.cell? w45 ⟨wd.heap.size, 1, none⟩ = some (.int .u64 0) := Blk.get QCb45 1 rfl
        have QCf451 : World.frozen? w45 ⟨wd.heap.size, 1, none⟩ = false := Blk.frozen QCb45 1
        have QCc452 : World.cell? w45 ⟨wd.heap.size, 2, none⟩ = some (.int .i64 0) := Blk.get QCb45 2 rfl
        have QCf452 : World.frozen? w45 ⟨wd.heap.size, 2, none⟩ = false := Blk.frozen QCb45 2
        have QCc453 : World.cell? w45 ⟨wd.heap.size, 3, none⟩ = some (.int .u64 0) := Blk.get QCb45 3 rfl
        have QCf453 : World.frozen? w45 ⟨wd.heap.size, 3, none⟩ = false := Blk.frozen QCb45 3
        have QCc454 : World.cell? w45 ⟨wd.heap.size, 4, none⟩ = some (.int .i64 0) := Blk.get QCb45 4 rfl
        have QCf454 : World.frozen? w45 ⟨wd.heap.size, 4, none⟩ = false := Blk.frozen QCb45 4
        have QCc455 : World.cell? w45 ⟨wd.heap.size, 5, none⟩ = some (.int .i64 0) := Blk.get QCb45 5 rfl
        have QCf455 : World.frozen? w45 ⟨wd.heap.size, 5, none⟩ = false := Blk.frozen QCb45 5
        have QCc456 : World.cell? w45 ⟨wd.heap.size, 6, none⟩ = some (.bool false) := Blk.get QCb45 6 rfl
        have QCf456 : World.frozen? w45 ⟨wd.heap.size, 6, none⟩ = false := Blk.frozen QCb45 6
        have QCc457 : World.cell? w45 ⟨wd.heap.size, 7, none⟩ = some (.int .u64 0) := Blk.get QCb45 7 rfl
        have QCf457 : World.frozen? w45 ⟨wd.heap.size, 7, none⟩ = false := Blk.frozen QCb45 7
        have QCc458 : World.cell? w45 ⟨wd.heap.size, 8, none⟩ = some (.int .u64 0) := Blk.get QCb45 8 rfl
        have QCf458 : World.frozen? w45 ⟨wd.heap.size, 8, none⟩ = false := Blk.frozen QCb45 8
        have QCc459 : World.cell? w45 ⟨wd.heap.size, 9, none⟩ = some (.int .u64 0) := Blk.get QCb45 9 rfl
        have QCf459 : World.frozen? w45 ⟨wd.heap.size, 9, none⟩ = false := Blk.frozen QCb45 9
        have QCc4510 : World.cell? w45 ⟨wd.heap.size, 10, none⟩ = some (.int .u64 0) := Blk.get QCb45 10 rfl
        have QCf4510 : World.frozen? w45 ⟨wd.heap.size, 10, none⟩ = false := Blk.frozen QCb45 10
        have QCc4511 : World.cell? w45 ⟨wd.heap.size, 11, none⟩ = some (.int .u64 0) := Blk.get QCb45 11 rfl
        have QCf4511 : World.frozen? w45 ⟨wd.heap.size, 11, none⟩ = false := Blk.frozen QCb45 11
        have QCc4512 : World.cell? w45 ⟨wd.heap.size, 12, none⟩ = some (.int .u64 0) := Blk.get QCb45 12 rfl
        have QCf4512 : World.frozen? w45 ⟨wd.heap.size, 12, none⟩ = false := Blk.frozen QCb45 12
        have QCc4513 : World.cell? w45 ⟨wd.heap.size, 13, none⟩ = some (.int .u64 0) := Blk.get QCb45 13 rfl
        have QCf4513 : World.frozen? w45 ⟨wd.heap.size, 13, none⟩ = false := Blk.frozen QCb45 13
        have QCc4514 : World.cell? w45 ⟨wd.heap.size, 14, none⟩ = some (.int .u64 0) := Blk.get QCb45 14 rfl
        have QCf4514 : World.frozen? w45 ⟨wd.heap.size, 14, none⟩ = false := Blk.frozen QCb45 14
        have QCc4515 : World.cell? w45 ⟨wd.heap.size, 15, none⟩ = some (.int .u64 0) := Blk.get QCb45 15 rfl
        have QCf4515 : World.frozen? w45 ⟨wd.heap.size, 15, none⟩ = false := Blk.frozen QCb45 15
        have QCc4516 : World.cell? w45 ⟨wd.heap.size, 16, none⟩ = some (.int .i64 0) := Blk.get QCb45 16 rfl
        have QCf4516 : World.frozen? w45 ⟨wd.heap.size, 16, none⟩ = false := Blk.frozen QCb45 16
        have QCc4517 : World.cell? w45 ⟨wd.heap.size, 17, none⟩ = some (.int .i64 0) := Blk.get QCb45 17 rfl
        have QCf4517 : World.frozen? w45 ⟨wd.heap.size, 17, none⟩ = false := Blk.frozen QCb45 17
        have QCc4518 : World.cell? w45 ⟨wd.heap.size, 18, none⟩ = some (.int .i64 0) := Blk.get QCb45 18 rfl
        have QCf4518 : World.frozen? w45 ⟨wd.heap.size, 18, none⟩ = false := Blk.frozen QCb45 18
        have QCc4519 : World.cell? w45 ⟨wd.heap.size, 19, none⟩ = some (.int .u64 0) := Blk.get QCb45 19 rfl
        have QCf4519 : World.frozen? w45 ⟨wd.heap.size, 19, none⟩ = false := Blk.frozen QCb45 19
        have QCc4520 : World.cell? w45 ⟨wd.heap.size, 20, none⟩ = some (.int .i64 0) := Blk.get QCb45 20 rfl
        have QCf4520 : World.frozen? w45 ⟨wd.heap.size, 20, none⟩ = false := Blk.frozen QCb45 20
        have QCc4521 : World.cell? w45 ⟨wd.heap.size, 21, none⟩ = some (.int .i64 0) := Blk.get QCb45 21 rfl
        have QCf4521 : World.frozen? w45 ⟨wd.heap.size, 21, none⟩ = false := Blk.frozen QCb45 21
        have QCc4522 : World.cell? w45 ⟨wd.heap.size, 22, none⟩ = some (.int .u64 0) := Blk.get QCb45 22 rfl
        have QCf4522 : World.frozen? w45 ⟨wd.heap.size, 22, none⟩ = false := Blk.frozen QCb45 22
        have QCc4523 : World.cell? w45 ⟨wd.heap.size, 23, none⟩ = some (.int .u64 0) := Blk.get QCb45 23 rfl
        have QCf4523 : World.frozen? w45 ⟨wd.heap.size, 23, none⟩ = false := Blk.frozen QCb45 23
        have QCn45 := Blk.lt QCb45
        refine hK.out _ _ (KE.out _ hb45) (fun hH45 => ?_)
        clear hK K hH
        have hH := hH45
        clear hH45
        try simp only [Act.put, List.getElem_toArray, List.getElem_cons_succ, List.getElem_cons_zero, List.setIfInBounds_toArray, List.set_cons_zero, List.set_cons_succ]
        refine wpAnyH_ready (rs := [3, 4]) (by kernel_rfl) (by simp) ?_
        refine (AllReadyH.cons rfl (fun K hK => ?_) (AllReadyH.cons rfl (fun K hK => ?_) AllReadyH.nil))
        · skip
          go_simp
          with_reducible refine (cmd_own c _ kc HAC.out.2).mono ?_
          rintro e w46 ⟨rfl, hb46'⟩
          have hb46 : Below (wd.heap.size) wd w46 := below_next hH.2 hb46'
          try go_wp2_with fail
          have QCb46 := Blk.next QCb45 hb46'
          have QCc460 : World.cell? w46 ⟨wd.heap.size, 0, none⟩ = some (.int .u8 0) := Blk.get QCb46 0 rfl
          have QCf460 : World.frozen? w46 ⟨wd.heap.size, 0, none⟩ = false := Blk.frozen QCb46 0
          have QCc461 : World.cell? w46 ⟨wd.heap.size, 1, none⟩ = some (.int .u64 0) := Blk.get QCb46 1 rfl
          have QCf461 : World.frozen? w46 ⟨wd.heap.size, 1, none⟩ = false := Blk.frozen QCb46 1
          have QCc462 : World.cell? w46 ⟨wd.heap.size, 2, none⟩ = some (.int .i64 0) := Blk.get QCb46 2 rfl
          have QCf462 : World.frozen? w46 ⟨wd.heap.size, 2, none⟩ = false := Blk.frozen QCb46 2
          have QCc463 : World.cell? w46 ⟨wd.heap.size, 3, none⟩ = some (.int .u64 0) := Blk.get QCb46 3 rfl
          have QCf463 : World.frozen? w46 ⟨wd.heap.size, 3, none⟩ = false := Blk.frozen QCb46 3
          have QCc464 : World.cell? w46 ⟨wd.heap.size, 4, none⟩ = some (.int .i64 0) := Blk.get QCb46 4 rfl
          have QCf464 : World.frozen? w46 ⟨wd.heap.size, 4, none⟩ = false := Blk.frozen QCb46 4
          have QCc465 : World.cell? w46 ⟨wd.heap.size, 5, none⟩ = some (.int .i64 0) := Blk.get QCb46 5 rfl
          have QCf465 : World.frozen? w46 ⟨wd.heap.size, 5, none⟩ = false := Blk.frozen QCb46 5
          have QCc466 : World.cell? w46 ⟨wd.heap.size, 6, none⟩ = some (.bool false) := Blk.get QCb46 6 rfl
          have QCf466 : World.frozen? w46 ⟨wd.heap.size, 6, none⟩ = false := Blk.frozen QCb46 6
          have QCc467 : World.cell? w46 ⟨wd.heap.size, 7, none⟩ = some (.int .u64 0) := Blk.get QCb46 7 rfl
          have QCf467 : World.frozen? w46 ⟨wd.heap.size, 7, none⟩ = false := Blk.frozen QCb46 7
          have QCc468 : World.cell? w46 ⟨wd.heap.size, 8, none⟩ = some (.int .u64 0) := Blk.get QCb46 8 rfl
          have QCf468 : World.frozen? w46 ⟨wd.heap.size, 8, none⟩ = false := Blk.frozen QCb46 8
          have QCc469 : World.cell? w46 ⟨wd.heap.size, 9, none⟩ = some (.int .u64 0) := Blk.get QCb46 9 rfl
          have QCf469 : World.frozen? w46 ⟨wd.heap.size, 9, none⟩ = false := Blk.frozen QCb46 9
          have QCc4610 : World.cell? w46 ⟨wd.heap.size, 10, none⟩ = some (.int .u64 0) := Blk.get QCb46 10 rfl
          have QCf4610 : World.frozen? w46 ⟨wd.heap.size, 10, none⟩ = false := Blk.frozen QCb46 10
          have QCc4611 : World.cell? w46 ⟨wd.heap.size, 11, none⟩ = some (.int .u64 0) := Blk.get QCb46 11 rfl
          have QCf4611 : World.frozen? w46 ⟨wd.heap.size, 11, none⟩ = false := Blk.frozen QCb46 11
          have QCc4612 : World.cell? w46 ⟨wd.heap.size, 12, none⟩ = some (.int .u64 0) := Blk.get QCb46 12 rfl
          have QCf4612 : World.frozen? w46 ⟨wd.heap.size, 12, none⟩ = false := Blk.frozen QCb46 12
          have QCc4613 : World.cell? w46 ⟨wd.heap.size, 13, none⟩ = some (.int .u64 0) := Blk.get QCb46 13 rfl
          have QCf4613 : World.frozen? w46 ⟨wd.heap.size, 13, none⟩ = false := Blk.frozen QCb46 13
          have QCc4614 : World.cell? w46 ⟨wd.heap.size, 14, none⟩ = some (.int .u64 0) := Blk.get QCb46 14 rfl
          have QCf4614 : World.frozen? w46 ⟨wd.heap.size, 14, none⟩ = false := Blk.frozen QCb46 14
          have QCc4615 : World.cell? w46 ⟨wd.heap.size, 15, none⟩ = some (.int .u64 0) := Blk.get QCb46 15 rfl
          have QCf4615 : World.frozen? w46 ⟨wd.heap.size, 15, none⟩ = false := Blk.frozen QCb46 15
          have QCc4616 : World.cell? w46 ⟨wd.heap.size, 16, none⟩ = some (.int .i64 0) := Blk.get QCb46 16 rfl
          have QCf4616 : World.frozen? w46 ⟨wd.heap.size, 16, none⟩ = false := Blk.frozen QCb46 16
          have QCc4617 : World.cell? w46 ⟨wd.heap.size, 17, none⟩ = some (.int .i64 0) := Blk.get QCb46 17 rfl
          have QCf4617 : World.frozen? w46 ⟨wd.heap.size, 17, none⟩ = false := Blk.frozen QCb46 17
          have QCc4618 : World.cell? w46 ⟨wd.heap.size, 18, none⟩ = some (.int .i64 0) := Blk.get QCb46 18 rfl
          have QCf4618 : World.frozen? w46 ⟨wd.heap.size, 18, none⟩ = false := Blk.frozen QCb46 18
          have QCc4619 : World.cell? w46 ⟨wd.heap.size, 19, none⟩ = some (.int .u64 0) := Blk.get QCb46 19 rfl
          have QCf4619 : World.frozen? w46 ⟨wd.heap.size, 19, none⟩ = false := Blk.frozen QCb46 19
          have QCc4620 : World.cell? w46 ⟨wd.heap.size, 20, none⟩ = some (.int .i64 0) := Blk.get QCb46 20 rfl
          have QCf4620 : World.frozen? w46 ⟨wd.heap.size, 20, none⟩ = false := Blk.frozen QCb46 20
          have QCc4621 : World.cell? w46 ⟨wd.heap.size, 21, none⟩ = some (.int .i64 0) := Blk.get QCb46 21 rfl
          have QCf4621 : World.frozen? w46 ⟨wd.heap.size, 21, none⟩ = false := Blk.frozen QCb46 21
          have QCc4622 : World.cell? w46 ⟨wd.heap.size, 22, none⟩ = some (.int .u64 0) := Blk.get QCb46 22 rfl
          have QCf4622 : World.frozen? w46 ⟨wd.heap.size, 22, none⟩ = false := Blk.frozen QCb46 22
          have QCc4623 : World.cell? w46 ⟨wd.heap.size, 23, none⟩ = some (.int .u64 0) := Blk.get QCb46 23 rfl
          have QCf4623 : World.frozen? w46 ⟨wd.heap.size, 23, none⟩ = false := Blk.frozen QCb46 23
          have QCn46 := Blk.lt QCb46
          refine hK.out _ _ (KE.out _ hb46) (fun hH46 => ?_)
          clear hK K hH
          have hH := hH46
          clear hH46
          try simp only [Act.put, List.getElem_toArray, List.getElem_cons_succ, List.getElem_cons_zero, List.setIfInBounds_toArray, List.set_cons_zero, List.set_cons_succ]
          refine wpAnyH_ready (rs := [4]) (by kernel_rfl) (by simp) ?_
          refine (AllReadyH.cons rfl (fun K hK => ?_) AllReadyH.nil)
          go_simp
          have NEQCQA47 : wd.heap.size ≠ w46.heap.size := Nat.ne_of_lt (Nat.lt_of_lt_of_eq (Blk.lt QCb46) (by simp))
          have QCb47 := Blk.alloc QCb46 (.cells #[.int .u8 0, .int .u64 0, .int .i64 0, .int .u64 0, .int .i64 0, .int .i64 0, .bool false, .int .u64 0, .int .u64 0, .int .u64 0, .int .u64 0, .int .u64 0, .int .u64 0, .int .u64 0, .int .u64 0, .int .u64 0, .int .i64 0, .int .i64 0, .int .i64 0, .int .u64 0, .int .i64 0, .int .i64 0, .int .u64 0, .int .u64 0] 32)
          have QAb47 : Blk (w46.alloc (.cells #[.int .u8 0, .int .u64 0, .int .i64 0, .int .u64 0, .int .i64 0, .int .i64 0, .bool false, .int .u64 0, .int .u64 0, .int .u64 0, .int .u64 0, .int .u64 0, .int .u64 0, .int .u64 0, .int .u64 0, .int .u64 0, .int .i64 0, .int .i64 0, .int .i64 0, .int .u64 0, .int .i64 0, .int .i64 0, .int .u64 0, .int .u64 0] 32)) (w46.heap.size) 32 #[.int .u8 0, .int .u64 0, .int .i64 0, .int .u64 0, .int .i64 0, .int .i64 0, .bool false, .int .u64 0, .int .u64 0, .int .u64 0, .int .u64 0, .int .u64 0, .int .u64 0, .int .u64 0, .int .u64 0, .int .u64 0, .int .i64 0, .int .i64 0, .int .i64 0, .int .u64 0, .int .i64 0, .int .i64 0, .int .u64 0, .int .u64 0] := Blk.new_at (by simp)
          have QGQA : wd.heap.size ≤ w46.heap.size := Nat.le_trans (Below.size (hb46)) (Nat.le_of_eq (by simp))
          have hb47 := Below.alloc (hb46) (Below.size (hb46)) (.cells #[.int .u8 0, .int .u64 0, .int .i64 0, .int .u64 0, .int .i64 0, .int .i64 0, .bool false, .int .u64 0, .int .u64 0, .int .u64 0, .int .u64 0, .int .u64 0, .int .u64 0, .int .u64 0, .int .u64 0, .int .u64 0, .int .i64 0, .int .i64 0, .int .i64 0, .int .u64 0, .int .i64 0, .int .i64 0, .int .u64 0, .int .u64 0] 32)
          refine hK.out _ _ (KE.out _ hb47) (fun hH47 => ?_)
          clear hK K hH
          have hH := hH47
          clear hH47
          try simp only [Act.put, List.getElem_toArray, List.getElem_cons_succ, List.getElem_cons_zero, List.setIfInBounds_toArray, List.set_cons_zero, List.set_cons_succ]
          refine wpAnyH_ready (rs := [6]) (by kernel_rfl) (by simp) ?_
          refine (AllReadyH.cons rfl (fun K hK => ?_) AllReadyH.nil)
          rw [if_pos (by rfl)]
          refine wp_store_blk 32 _ _ rfl (w46.heap.size) (rowA cmdT 24 (ownC ka a)) _ rfl rfl 32 (QAb47) (by simp [rowA_size]) (by rw [rowA_size]; kernel_rfl) rowA_one ?_
          intro w48 hst48 hfr48
          have hb48 := Below.trans (hb47) (hfr48.below (Below.size (hb47)) (fun k hk e => by have := QGQA; omega))
          have QAb48 := hst48
          have QCb48 := Blk.fr (QCb47) hfr48 (by show ¬ (_ = _); first |assumption |exact Ne.symm (by assumption) |omega)
          refine hK.out _ _ (KE.out _ hb48) (fun hH48 => ?_)
          clear hK K hH
          have hH := hH48
          clear hH48
          try simp only [Act.put, List.getElem_toArray, List.getElem_cons_succ, List.getElem_cons_zero, List.setIfInBounds_toArray, List.set_cons_zero, List.set_cons_succ]
          refine wpAnyH_ready (rs := [7]) (by kernel_rfl) (by simp) ?_
          refine (AllReadyH.cons rfl (fun K hK => ?_) AllReadyH.nil)
          rw [if_pos (by rfl)]
          refine wp_store_blk 32 _ _ rfl (wd.heap.size) (rowA cmdT 24 (ownC kc c)) _ rfl rfl 32 (QCb48) (by simp [rowA_size]) (by rw [rowA_size]; kernel_rfl) rowA_one ?_
          intro w49 hst49 hfr49
          have hb49 := Below.trans (hb48) (hfr49.below (Below.size (hb48)) (fun k hk e => by have := QGQC; omega))
          have QCb49 := hst49
          have QAb49 := Blk.fr (QAb48) hfr49 (by show ¬ (_ = _); first |assumption |exact Ne.symm (by assumption) |omega)
          refine hK.out _ _ (KE.out _ hb49) (fun hH49 => ?_)
          clear hK K hH
          have hH := hH49
          clear hH49
          try simp only [Act.put, List.getElem_toArray, List.getElem_cons_succ, List.getElem_cons_zero, List.setIfInBounds_toArray, List.set_cons_zero, List.set_cons_succ]
          refine wpAnyH_done (by kernel_rfl) ?_ _
          refine NoPanic.normal ?_
          have p1 := QAb49
          have p2 := QCb49
          rw [zero_cmd, rowA_whole] at p1 p2
          have p3 := hl.out.next hb49
          go_wp2_with fail
          go_meet
          exact ⟨_, _, rfl, rfl, p1, p2, p3⟩
        · skip
          go_simp
          have NEQCQA50 : wd.heap.size ≠ w45.heap.size := Nat.ne_of_lt (Nat.lt_of_lt_of_eq (Blk.lt QCb45) (by simp))
          have QCb50 := Blk.alloc QCb45 (.cells #[.int .u8 0, .int .u64 0, .int .i64 0, .int .u64 0, .int .i64 0, .int .i64 0, .bool false, .int .u64 0, .int .u64 0, .int .u64 0, .int .u64 0, .int .u64 0, .int .u64 0, .int .u64 0, .int .u64 0, .int .u64 0, .int .i64 0, .int .i64 0, .int .i64 0, .int .u64 0, .int .i64 0, .int .i64 0, .int .u64 0, .int .u64 0] 32)
          have QAb50 : Blk (w45.alloc (.cells #[.int .u8 0, .int .u64 0, .int .i64 0, .int .u64 0, .int .i64 0, .int .i64 0, .bool false, .int .u64 0, .int .u64 0, .int .u64 0, .int .u64 0, .int .u64 0, .int .u64 0, .int .u64 0, .int .u64 0, .int .u64 0, .int .i64 0, .int .i64 0, .int .i64 0, .int .u64 0, .int .i64 0, .int .i64 0, .int .u64 0, .int .u64 0] 32)) (w45.heap.size) 32 #[.int .u8 0, .int .u64 0, .int .i64 0, .int .u64 0, .int .i64 0, .int .i64 0, .bool false, .int .u64 0, .int .u64 0, .int .u64 0, .int .u64 0, .int .u64 0, .int .u64 0, .int .u64 0, .int .u64 0, .int .u64 0, .int .i64 0, .int .i64 0, .int .i64 0, .int .u64 0, .int .i64 0, .int .i64 0, .int .u64 0, .int .u64 0] := Blk.new_at (by simp)
          have QGQA : wd.heap.size ≤ w45.heap.size := Nat.le_trans (Below.size (hb45)) (Nat.le_of_eq (by simp))
          have hb50 := Below.alloc (hb45) (Below.size (hb45)) (.cells #[.int .u8 0, .int .u64 0, .int .i64 0, .int .u64 0, .int .i64 0, .int .i64 0, .bool false, .int .u64 0, .int .u64 0, .int .u64 0, .int .u64 0, .int .u64 0, .int .u64 0, .int .u64 0, .int .u64 0, .int .u64 0, .int .i64 0, .int .i64 0, .int .i64 0, .int .u64 0, .int .i64 0, .int .i64 0, .int .u64 0, .int .u64 0] 32)
          refine hK.out _ _ (KE.out _ hb50) (fun hH50 => ?_)
          clear hK K hH
          have hH := hH50
          clear hH50
          try simp only [Act.put, List.getElem_toArray, List.getElem_cons_succ, List.getElem_cons_zero, List.setIfInBounds_toArray, List.set_cons_zero, List.set_cons_succ]
          refine wpAnyH_ready (rs := [3]) (by kernel_rfl) (by simp) ?_
          refine (AllReadyH.cons rfl (fun K hK => ?_) AllReadyH.nil)
          go_simp
          with_reducible refine (cmd_own c _ kc HAC.out.2).mono ?_
          rintro e w51 ⟨rfl, hb51'⟩
          have hb51 : Below (wd.heap.size) wd w51 := below_next hH.2 hb51'
          try go_wp2_with fail
          have QCb51 := Blk.next QCb50 hb51'
          have QCc510 : World.cell? w51 ⟨wd.heap.size, 0, none⟩ = some (.int .u8 0) := Blk.get QCb51 0 rfl
          have QCf510 : World.frozen? w51 ⟨wd.heap.size, 0, none⟩ = false := Blk.frozen QCb51 0
          have QCc511 : World.cell? w51 ⟨wd.heap.size, 1, none⟩ = some (.int .u64 0) := Blk.get QCb51 1 rfl
          have QCf511 : World.frozen? w51 ⟨wd.heap.size, 1, none⟩ = false := Blk.frozen QCb51 1
          have QCc512 : World.cell? w51 ⟨wd.heap.size, 2, none⟩ = some (.int .i64 0) := Blk.get QCb51 2 rfl
          have QCf512 : World.frozen? w51 ⟨wd.heap.size, 2, none⟩ = false := Blk.frozen QCb51 2
          have QCc513 : World.cell? w51 ⟨wd.heap.size, 3, none⟩ = some (.int .u64 0) := Blk.get QCb51 3 rfl
          have QCf513 : World.frozen? w51 ⟨wd.heap.size, 3, none⟩ = false := Blk.frozen QCb51 3
          have QCc514 : World.cell? w51 ⟨wd.heap.size, 4, none⟩ = some (.int .i64 0) := Blk.get QCb51 4 rfl
          have QCf514 : World.frozen? w51 ⟨wd.heap.size, 4, none⟩ = false := Blk.frozen QCb51 4
          have QCc515 : World.cell? w51 ⟨wd.heap.size, 5, none⟩ = some (.int .i64 0) := Blk.get QCb51 5 rfl
          have QCf515 : World.frozen? w51 ⟨wd.heap.size, 5, none⟩ = false := Blk.frozen QCb51 5
          have QCc516 : World.cell? w51 ⟨wd.heap.size, 6, none⟩ = some (.bool false) := Blk.get QCb51 6 rfl
          have QCf516 : World.frozen? w51 ⟨wd.heap.size, 6, none⟩ = false := Blk.frozen QCb51 6
          have QCc517 : World.cell? w51 ⟨wd.heap.size, 7, none⟩ = some (.int .u64 0) := Blk.get QCb51 7 rfl
          have QCf517 : World.frozen? w51 ⟨wd.heap.size, 7, none⟩ = false := Blk.frozen QCb51 7
          have QCc518 : World.cell? w51 ⟨wd.heap.size, 8, none⟩ = some (.int .u64 0) := Blk.get QCb51 8 rfl
          have QCf518 : World.frozen? w51 ⟨wd.heap.size, 8, none⟩ = false := Blk.frozen QCb51 8
          have QCc519 : World.cell? w51 ⟨wd.heap.size, 9, none⟩ = some (.int .u64 0) := Blk.get QCb51 9 rfl
          have QCf519 : World.frozen? w51 ⟨wd.heap.size, 9, none⟩ = false := Blk.frozen QCb51 9
          have QCc5110 : World.cell? w51 ⟨wd.heap.size, 10, none⟩ = some (.int .u64 0) := Blk.get QCb51 10 rfl
          have QCf5110 : World.frozen? w51 ⟨wd.heap.size, 10, none⟩ = false := Blk.frozen QCb51 10
          have QCc5111 : World.cell? w51 ⟨wd.heap.size, 11, none⟩ = some (.int .u64 0) := Blk.get QCb51 11 rfl
          have QCf5111 : World.frozen? w51 ⟨wd.heap.size, 11, none⟩ = false := Blk.frozen QCb51 11
          have QCc5112 : World.cell? w51 ⟨wd.heap.size, 12, none⟩ = some (.int .u64 0) := Blk.get QCb51 12 rfl
          have QCf5112 : World.frozen? w51 ⟨wd.heap.size, 12, none⟩ = false := Blk.frozen QCb51 12
          have QCc5113 : World.cell? w51 ⟨wd.heap.size, 13, none⟩ = some (.int .u64 0) := Blk.get QCb51 13 rfl
          have QCf5113 : World.frozen? w51 ⟨wd.heap.size, 13, none⟩ = false := Blk.frozen QCb51 13
          have QCc5114 : World.cell? w51 ⟨wd.heap.size, 14, none⟩ = some (.int .u64 0) := Blk.get QCb51 14 rfl
          have QCf5114 : World.frozen? w51 ⟨wd.heap.size, 14, none⟩ = false := Blk.frozen QCb51 14
          have QCc5115 : World.cell? w51 ⟨wd.heap.size, 15, none⟩ = some (.int .u64 0) := Blk.get QCb51 15 rfl
          have QCf5115 : World.frozen? w51 ⟨wd.heap.size, 15, none⟩ = false := Blk.frozen QCb51 15
          have QCc5116 : World.cell? w51 ⟨wd.heap.size, 16, none⟩ = some (.int .i64 0) := Blk.get QCb51 16 rfl
          have QCf5116 : World.frozen? w51 ⟨wd.heap.size, 16, none⟩ = false := Blk.frozen QCb51 16
          have QCc5117 : World.cell? w51 ⟨wd.heap.size, 17, none⟩ = some (.int .i64 0) := Blk.get QCb51 17 rfl
          have QCf5117 : World.frozen? w51 ⟨wd.heap.size, 17, none⟩ = false := Blk.frozen QCb51 17
          have QCc5118 : World.cell? w51 ⟨wd.heap.size, 18, none⟩ = some (.int .i64 0) := Blk.get QCb51 18 rfl
          have QCf5118 : World.frozen? w51 ⟨wd.heap.size, 18, none⟩ = false := Blk.frozen QCb51 18
          have QCc5119 : World.cell? w51 ⟨wd.heap.size, 19, none⟩ = some (.int .u64 0) := Blk.get QCb51 19 rfl
          have QCf5119 : World.frozen? w51 ⟨wd.heap.size, 19, none⟩ = false := Blk.frozen QCb51 19
          have QCc5120 : World.cell? w51 ⟨wd.heap.size, 20, none⟩ = some (.int .i64 0) := Blk.get QCb51 20 rfl
          have QCf5120 : World.frozen? w51 ⟨wd.heap.size, 20, none⟩ = false := Blk.frozen QCb51 20
          have QCc5121 : World.cell? w51 ⟨wd.heap.size, 21, none⟩ = some (.int .i64 0) := Blk.get QCb51 21 rfl
          have QCf5121 : World.frozen? w51 ⟨wd.heap.size, 21, none⟩ = false := Blk.frozen QCb51 21
          have QCc5122 : World.cell? w51 ⟨wd.heap.size, 22, none⟩ = some (.int .u64 0) := Blk.get QCb51 22 rfl
          have QCf5122 : World.frozen? w51 ⟨wd.heap.size, 22, none⟩ = false := Blk.frozen QCb51 22
          have QCc5123 : World.cell? w51 ⟨wd.heap.size, 23, none⟩ = some (.int .u64 0) := Blk.get QCb51 23 rfl
          have QCf5123 : World.frozen? w51 ⟨wd.heap.size, 23, none⟩ = false := Blk.frozen QCb51 23
          have QCn51 := Blk.lt QCb51
          have QAb51 := Blk.next QAb50 hb51'
          have QAc510 : World.cell? w51 ⟨w45.heap.size, 0, none⟩ = some (.int .u8 0) := Blk.get QAb51 0 rfl
          have QAf510 : World.frozen? w51 ⟨w45.heap.size, 0, none⟩ = false := Blk.frozen QAb51 0
          have QAc511 : World.cell? w51 ⟨w45.heap.size, 1, none⟩ = some (.int .u64 0) := Blk.get QAb51 1 rfl
          have QAf511 : World.frozen? w51 ⟨w45.heap.size, 1, none⟩ = false := Blk.frozen QAb51 1
          have QAc512 : World.cell? w51 ⟨w45.heap.size, 2, none⟩ = some (.int .i64 0) := Blk.get QAb51 2 rfl
          have QAf512 : World.frozen? w51 ⟨w45.heap.size, 2, none⟩ = false := Blk.frozen QAb51 2
          have QAc513 : World.cell? w51 ⟨w45.heap.size, 3, none⟩ = some (.int .u64 0) := Blk.get QAb51 3 rfl
          have QAf513 : World.frozen? w51 ⟨w45.heap.size, 3, none⟩ = false := Blk.frozen QAb51 3
          have QAc514 : World.cell? w51 ⟨w45.heap.size, 4, none⟩ = some (.int .i64 0) := Blk.get QAb51 4 rfl
          have QAf514 : World.frozen? w51 ⟨w45.heap.size, 4, none⟩ = false := Blk.frozen QAb51 4
          have QAc515 : World.cell? w51 ⟨w45.heap.size, 5, none⟩ = some (.int .i64 0) := Blk.get QAb51 5 rfl
          have QAf515 : World.frozen? w51 ⟨w45.heap.size, 5, none⟩ = false := Blk.frozen QAb51 5
          have QAc516 : World.cell? w51 ⟨w45.heap.size, 6, none⟩ = some (.bool false) := Blk.get QAb51 6 rfl
          have QAf516 : World.frozen? w51 ⟨w45.heap.size, 6, none⟩ = false := Blk.frozen QAb51 6
          have QAc517 : World.cell? w51 ⟨w45.heap.size, 7, none⟩ = some (.int .u64 0) := Blk.get QAb51 7 rfl
          have QAf517 : World.frozen? w51 ⟨w45.heap.size, 7, none⟩ = false := Blk.frozen QAb51 7
          have QAc518 : World.cell? w51 ⟨w45.heap.size, 8, none⟩ = some (.int .u64 0) := Blk.get QAb51 8 rfl
          have QAf518 : World.frozen? w51 ⟨w45.heap.size, 8, none⟩ = false := Blk.frozen QAb51 8
          have QAc519 : World.cell? w51 ⟨w45.heap.size, 9, none⟩ = some (.int .u64 0) := Blk.get QAb51 9 rfl
          have QAf519 : World.frozen? w51 ⟨w45.heap.size, 9, none⟩ = false := Blk.frozen QAb51 9
          have QAc5110 : World.cell? w51 ⟨w45.heap.size, 10, none⟩ = some (.int .u64 0) := Blk.get QAb51 10 rfl
          have QAf5110 : World.frozen? w51 ⟨w45.heap.size, 10, none⟩ = false := Blk.frozen QAb51 10
          have QAc5111 : World.cell? w51 ⟨w45.heap.size, 11, none⟩ = some (.int .u64 0) := Blk.get QAb51 11 rfl
          have QAf5111 : World.frozen? w51 ⟨w45.heap.size, 11, none⟩ = false := Blk.frozen QAb51 11
          have QAc5112 : World.cell? w51 ⟨w45.heap.size, 12, none⟩ = some (.int .u64 0) := Blk.get QAb51 12 rfl
          have QAf5112 : World.frozen? w51 ⟨w45.heap.size, 12, none⟩ = false := Blk.frozen QAb51 12
          have QAc5113 : World.cell? w51 ⟨w45.heap.size, 13, none⟩ = some (.int .u64 0) := Blk.get QAb51 13 rfl
          have QAf5113 : World.frozen? w51 ⟨w45.heap.size, 13, none⟩ = false := Blk.frozen QAb51 13
          have QAc5114 : World.cell? w51 ⟨w45.heap.size, 14, none⟩ = some (.int .u64 0) := Blk.get QAb51 14 rfl
          have QAf5114 : World.frozen? w51 ⟨w45.heap.size, 14, none⟩ = false := Blk.frozen QAb51 14
          have QAc5115 : World.cell? w51 ⟨w45.heap.size, 15, none⟩ = some (.int .u64 0) := Blk.get QAb51 15 rfl
          have QAf5115 : World.frozen? w51 ⟨w45.heap.size, 15, none⟩ = false := Blk.frozen QAb51 15
          have QAc5116 : World.cell? w51 ⟨w45.heap.size, 16, none⟩ = some (.int .i64 0) := Blk.get QAb51 16 rfl
          have QAf5116 : World.frozen? w51 ⟨w45.heap.size, 16, none⟩ = false := Blk.frozen QAb51 16
          have QAc5117 : World.cell? w51 ⟨w45.heap.size, 17, none⟩ = some (.int .i64 0) := Blk.get QAb51 17 rfl
          have QAf5117 : World.frozen? w51 ⟨w45.heap.size, 17, none⟩ = false := Blk.frozen QAb51 17
          have QAc5118 : World.cell? w51 ⟨w45.heap.size, 18, none⟩ = some (.int .i64 0) := Blk.get QAb51 18 rfl
          have QAf5118 : World.frozen? w51 ⟨w45.heap.size, 18, none⟩ = false := Blk.frozen QAb51 18
          have QAc5119 : World.cell? w51 ⟨w45.heap.size, 19, none⟩ = some (.int .u64 0) := Blk.get QAb51 19 rfl
          have QAf5119 : World.frozen? w51 ⟨w45.heap.size, 19, none⟩ = false := Blk.frozen QAb51 19
          have QAc5120 : World.cell? w51 ⟨w45.heap.size, 20, none⟩ = some (.int .i64 0) := Blk.get QAb51 20 rfl
          have QAf5120 : World.frozen? w51 ⟨w45.heap.size, 20, none⟩ = false := Blk.frozen QAb51 20
          have QAc5121 : World.cell? w51 ⟨w45.heap.size, 21, none⟩ = some (.int .i64 0) := Blk.get QAb51 21 rfl
          have QAf5121 : World.frozen? w51 ⟨w45.heap.size, 21, none⟩ = false := Blk.frozen QAb51 21
          have QAc5122 : World.cell? w51 ⟨w45.heap.size, 22, none⟩ = some (.int .u64 0) := Blk.get QAb51 22 rfl
          have QAf5122 : World.frozen? w51 ⟨w45.heap.size, 22, none⟩ = false := Blk.frozen QAb51 22
          have QAc5123 : World.cell? w51 ⟨w45.heap.size, 23, none⟩ = some (.int .u64 0) := Blk.get QAb51 23 rfl
          have QAf5123 : World.frozen? w51 ⟨w45.heap.size, 23, none⟩ = false := Blk.frozen QAb51 23
          have QAn51 := Blk.lt QAb51
          refine hK.out _ _ (KE.out _ hb51) (fun hH51 => ?_)
          clear hK K hH
          have hH := hH51
          clear hH51
          try simp only [Act.put, List.getElem_toArray, List.getElem_cons_succ, List.getElem_cons_zero, List.setIfInBounds_toArray, List.set_cons_zero, List.set_cons_succ]
          refine wpAnyH_ready (rs := [6]) (by kernel_rfl) (by simp) ?_
          refine (AllReadyH.cons rfl (fun K hK => ?_) AllReadyH.nil)
          rw [if_pos (by rfl)]
          refine wp_store_blk 32 _ _ rfl (w45.heap.size) (rowA cmdT 24 (ownC ka a)) _ rfl rfl 32 (QAb51) (by simp [rowA_size]) (by rw [rowA_size]; kernel_rfl) rowA_one ?_
          intro w52 hst52 hfr52
          have hb52 := Below.trans (hb51) (hfr52.below (Below.size (hb51)) (fun k hk e => by have := QGQA; omega))
          have QAb52 := hst52
          have QCb52 := Blk.fr (QCb51) hfr52 (by show ¬ (_ = _); first |assumption |exact Ne.symm (by assumption) |omega)
          refine hK.out _ _ (KE.out _ hb52) (fun hH52 => ?_)
          clear hK K hH
          have hH := hH52
          clear hH52
          try simp only [Act.put, List.getElem_toArray, List.getElem_cons_succ, List.getElem_cons_zero, List.setIfInBounds_toArray, List.set_cons_zero, List.set_cons_succ]
          refine wpAnyH_ready (rs := [7]) (by kernel_rfl) (by simp) ?_
          refine (AllReadyH.cons rfl (fun K hK => ?_) AllReadyH.nil)
          rw [if_pos (by rfl)]
          refine wp_store_blk 32 _ _ rfl (wd.heap.size) (rowA cmdT 24 (ownC kc c)) _ rfl rfl 32 (QCb52) (by simp [rowA_size]) (by rw [rowA_size]; kernel_rfl) rowA_one ?_
          intro w53 hst53 hfr53
          have hb53 := Below.trans (hb52) (hfr53.below (Below.size (hb52)) (fun k hk e => by have := QGQC; omega))
          have QCb53 := hst53
          have QAb53 := Blk.fr (QAb52) hfr53 (by show ¬ (_ = _); first |assumption |exact Ne.symm (by assumption) |omega)
          refine hK.out _ _ (KE.out _ hb53) (fun hH53 => ?_)
          clear hK K hH
          have hH := hH53
          clear hH53
          try simp only [Act.put, List.getElem_toArray, List.getElem_cons_succ, List.getElem_cons_zero, List.setIfInBounds_toArray, List.set_cons_zero, List.set_cons_succ]
          refine wpAnyH_done (by kernel_rfl) ?_ _
          refine NoPanic.normal ?_
          have p1 := QAb53
          have p2 := QCb53
          rw [zero_cmd, rowA_whole] at p1 p2
          have p3 := hl.out.next hb53
          go_wp2_with fail
          go_meet
          exact ⟨_, _, rfl, rfl, p1, p2, p3⟩
      · skip
        go_simp
        have NEQCQA54 : wd.heap.size ≠ wd.heap.size + 1 := Nat.ne_of_lt (Nat.lt_of_lt_of_eq (Blk.lt QCb44) (by simp))
        have QCb54 := Blk.alloc QCb44 (.cells #[.int .u8 0, .int .u64 0, .int .i64 0, .int .u64 0, .int .i64 0, .int .i64 0, .bool false, .int .u64 0, .int .u64 0, .int .u64 0, .int .u64 0, .int .u64 0, .int .u64 0, .int .u64 0, .int .u64 0, .int .u64 0, .int .i64 0, .int .i64 0, .int .i64 0, .int .u64 0, .int .i64 0, .int .i64 0, .int .u64 0, .int .u64 0] 32)
        have QAb54 : Blk ((wd.drew.alloc (.cells #[.int .u8 0, .int .u64 0, .int .i64 0, .int .u64 0, .int .i64 0, .int .i64 0, .bool false, .int .u64 0, .int .u64 0, .int .u64 0, .int .u64 0, .int .u64 0, .int .u64 0, .int .u64 0, .int .u64 0, .int .u64 0, .int .i64 0, .int .i64 0, .int .i64 0, .int .u64 0, .int .i64 0, .int .i64 0, .int .u64 0, .int .u64 0] 32)).alloc (.cells #[.int .u8 0, .int .u64 0, .int .i64 0, .int .u64 0, .int .i64 0, .int .i64 0, .bool false, .int .u64 0, .int .u64 0, .int .u64 0, .int .u64 0, .int .u64 0, .int .u64 0, .int .u64 0, .int .u64 0, .int .u64 0, .int .i64 0, .int .i64 0, .int .i64 0, .int .u64 0, .int .i64 0, .int .i64 0, .int .u64 0, .int .u64 0] 32)) (wd.heap.size + 1) 32 #[.int .u8 0, .int .u64 0, .int .i64 0, .int .u64 0, .int .i64 0, .int .i64 0, .bool false, .int .u64 0, .int .u64 0, .int .u64 0, .int .u64 0, .int .u64 0, .int .u64 0, .int .u64 0, .int .u64 0, .int .u64 0, .int .i64 0, .int .i64 0, .int .i64 0, .int .u64 0, .int .i64 0, .int .i64 0, .int .u64 0, .int .u64 0] := Blk.new_at (by simp)
        have QGQA : wd.heap.size ≤ wd.heap.size + 1 := Nat.le_trans (Below.size (hb44)) (Nat.le_of_eq (by simp))
        have hb54 := Below.alloc (hb44) (Below.size (hb44)) (.cells #[.int .u8 0, .int .u64 0, .int .i64 0, .int .u64 0, .int .i64 0, .int .i64 0, .bool false, .int .u64 0, .int .u64 0, .int .u64 0, .int .u64 0, .int .u64 0, .int .u64 0, .int .u64 0, .int .u64 0, .int .u64 0, .int .i64 0, .int .i64 0, .int .i64 0, .int .u64 0, .int .i64 0, .int .i64 0, .int .u64 0, .int .u64 0] 32)
        refine hK.out _ _ (KE.out _ hb54) (fun hH54 => ?_)
        clear hK K hH
        have hH := hH54
        clear hH54
        try simp only [Act.put, List.getElem_toArray, List.getElem_cons_succ, List.getElem_cons_zero, List.setIfInBounds_toArray, List.set_cons_zero, List.set_cons_succ]
        refine wpAnyH_ready (rs := [1]) (by kernel_rfl) (by simp) ?_
        refine (AllReadyH.cons rfl (fun K hK => ?_) AllReadyH.nil)
        go_simp
        with_reducible refine (cmd_own a _ ka HAC.out.1).mono ?_
        rintro e w55 ⟨rfl, hb55'⟩
        have hb55 : Below (wd.heap.size) wd w55 := below_next hH.2 hb55'
        try go_wp2_with fail
        have QCb55 := Blk.next QCb54 hb55'
        have QCc550 : World.cell? w55 ⟨wd.heap.size, 0, none⟩ = some (.int .u8 0) := Blk.get QCb55 0 rfl
        have QCf550 : World.frozen? w55 ⟨wd.heap.size, 0, none⟩ = false := Blk.frozen QCb55 0
        have QCc551 : World.cell? w55 ⟨wd.heap.size, 1, none⟩ = some (.int .u64 0) := Blk.get QCb55 1 rfl
        have QCf551 : World.frozen? w55 ⟨wd.heap.size, 1, none⟩ = false := Blk.frozen QCb55 1
        have QCc552 : World.cell? w55 ⟨wd.heap.size, 2, none⟩ = some (.int .i64 0) := Blk.get QCb55 2 rfl
        have QCf552 : World.frozen? w55 ⟨wd.heap.size, 2, none⟩ = false := Blk.frozen QCb55 2
        have QCc553 : World.cell? w55 ⟨wd.heap.size, 3, none⟩ = some (.int .u64 0) := Blk.get QCb55 3 rfl
        have QCf553 : World.frozen? w55 ⟨wd.heap.size, 3, none⟩ = false := Blk.frozen QCb55 3
        have QCc554 : World.cell? w55 ⟨wd.heap.size, 4, none⟩ = some (.int .i64 0) := Blk.get QCb55 4 rfl
        have QCf554 : World.frozen? w55 ⟨wd.heap.size, 4, none⟩ = false := Blk.frozen QCb55 4
        have QCc555 : World.cell? w55 ⟨wd.heap.size, 5, none⟩ = some (.int .i64 0) := Blk.get QCb55 5 rfl
        have QCf555 : World.frozen? w55 ⟨wd.heap.size, 5, none⟩ = false := Blk.frozen QCb55 5
        have QCc556 : World.cell? w55 ⟨wd.heap.size, 6, none⟩ = some (.bool false) := Blk.get QCb55 6 rfl
        have QCf556 : World.frozen? w55 ⟨wd.heap.size, 6, none⟩ = false := Blk.frozen QCb55 6
        have QCc557 : World.cell? w55 ⟨wd.heap.size, 7, none⟩ = some (.int .u64 0) := Blk.get QCb55 7 rfl
        have QCf557 : World.frozen? w55 ⟨wd.heap.size, 7, none⟩ = false := Blk.frozen QCb55 7
        have QCc558 : World.cell? w55 ⟨wd.heap.size, 8, none⟩ = some (.int .u64 0) := Blk.get QCb55 8 rfl
        have QCf558 : World.frozen? w55 ⟨wd.heap.size, 8, none⟩ = false := Blk.frozen QCb55 8
        have QCc559 : World.cell? w55 ⟨wd.heap.size, 9, none⟩ = some (.int .u64 0) := Blk.get QCb55 9 rfl
        have QCf559 : World.frozen? w55 ⟨wd.heap.size, 9, none⟩ = false := Blk.frozen QCb55 9
        have QCc5510 : World.cell? w55 ⟨wd.heap.size, 10, none⟩ = some (.int .u64 0) := Blk.get QCb55 10 rfl
        have QCf5510 : World.frozen? w55 ⟨wd.heap.size, 10, none⟩ = false := Blk.frozen QCb55 10
        have QCc5511 : World.cell? w55 ⟨wd.heap.size, 11, none⟩ = some (.int .u64 0) := Blk.get QCb55 11 rfl
        have QCf5511 : World.frozen? w55 ⟨wd.heap.size, 11, none⟩ = false := Blk.frozen QCb55 11
        have QCc5512 : World.cell? w55 ⟨wd.heap.size, 12, none⟩ = some (.int .u64 0) := Blk.get QCb55 12 rfl
        have QCf5512 : World.frozen? w55 ⟨wd.heap.size, 12, none⟩ = false := Blk.frozen QCb55 12
        have QCc5513 : World.cell? w55 ⟨wd.heap.size, 13, none⟩ = some (.int .u64 0) := Blk.get QCb55 13 rfl
        have QCf5513 : World.frozen? w55 ⟨wd.heap.size, 13, none⟩ = false := Blk.frozen QCb55 13
        have QCc5514 : World.cell? w55 ⟨wd.heap.size, 14, none⟩ = some (.int .u64 0) := Blk.get QCb55 14 rfl
        have QCf5514 : World.frozen? w55 ⟨wd.heap.size, 14, none⟩ = false := Blk.frozen QCb55 14
        have QCc5515 : World.cell? w55 ⟨wd.heap.size, 15, none⟩ = some (.int .u64 0) := Blk.get QCb55 15 rfl
        have QCf5515 : World.frozen? w55 ⟨wd.heap.size, 15, none⟩ = false := Blk.frozen QCb55 15
        have QCc5516 : World.cell? w55 ⟨wd.heap.size, 16, none⟩ = some (.int .i64 0) := Blk.get QCb55 16 rfl
        have QCf5516 : World.frozen? w55 ⟨wd.heap.size, 16, none⟩ = false := Blk.frozen QCb55 16
        have QCc5517 : World.cell? w55 ⟨wd.heap.size, 17, none⟩ = some (.int .i64 0) := Blk.get QCb55 17 rfl
        have QCf5517 : World.frozen? w55 ⟨wd.heap.size, 17, none⟩ = false := Blk.frozen QCb55 17
        have QCc5518 : World.cell? w55 ⟨wd.heap.size, 18, none⟩ = some (.int .i64 0) := Blk.get QCb55 18 rfl
        have QCf5518 : World.frozen? w55 ⟨wd.heap.size, 18, none⟩ = false := Blk.frozen QCb55 18
        have QCc5519 : World.cell? w55 ⟨wd.heap.size, 19, none⟩ = some (.int .u64 0) := Blk.get QCb55 19 rfl
        have QCf5519 : World.frozen? w55 ⟨wd.heap.size, 19, none⟩ = false := Blk.frozen QCb55 19
        have QCc5520 : World.cell? w55 ⟨wd.heap.size, 20, none⟩ = some (.int .i64 0) := Blk.get QCb55 20 rfl
        have QCf5520 : World.frozen? w55 ⟨wd.heap.size, 20, none⟩ = false := Blk.frozen QCb55 20
        have QCc5521 : World.cell? w55 ⟨wd.heap.size, 21, none⟩ = some (.int .i64 0) := Blk.get QCb55 21 rfl
        have QCf5521 : World.frozen? w55 ⟨wd.heap.size, 21, none⟩ = false := Blk.frozen QCb55 21
        have QCc5522 : World.cell? w55 ⟨wd.heap.size, 22, none⟩ = some (.int .u64 0) := Blk.get QCb55 22 rfl
        have QCf5522 : World.frozen? w55 ⟨wd.heap.size, 22, none⟩ = false := Blk.frozen QCb55 22
        have QCc5523 : World.cell? w55 ⟨wd.heap.size, 23, none⟩ = some (.int .u64 0) := Blk.get QCb55 23 rfl
        have QCf5523 : World.frozen? w55 ⟨wd.heap.size, 23, none⟩ = false := Blk.frozen QCb55 23
        have QCn55 := Blk.lt QCb55
        have QAb55 := Blk.next QAb54 hb55'
        have QAc550 : World.cell? w55 ⟨wd.heap.size + 1, 0, none⟩ = some (.int .u8 0) := Blk.get QAb55 0 rfl
        have QAf550 : World.frozen? w55 ⟨wd.heap.size + 1, 0, none⟩ = false := Blk.frozen QAb55 0
        have QAc551 : World.cell? w55 ⟨wd.heap.size + 1, 1, none⟩ = some (.int .u64 0) := Blk.get QAb55 1 rfl
        have QAf551 : World.frozen? w55 ⟨wd.heap.size + 1, 1, none⟩ = false := Blk.frozen QAb55 1
        have QAc552 : World.cell? w55 ⟨wd.heap.size + 1, 2, none⟩ = some (.int .i64 0) := Blk.get QAb55 2 rfl
        have QAf552 : World.frozen? w55 ⟨wd.heap.size + 1, 2, none⟩ = false := Blk.frozen QAb55 2
        have QAc553 : World.cell? w55 ⟨wd.heap.size + 1, 3, none⟩ = some (.int .u64 0) := Blk.get QAb55 3 rfl
        have QAf553 : World.frozen? w55 ⟨wd.heap.size + 1, 3, none⟩ = false := Blk.frozen QAb55 3
        have QAc554 : World.cell? w55 ⟨wd.heap.size + 1, 4, none⟩ = some (.int .i64 0) := Blk.get QAb55 4 rfl
        have QAf554 : World.frozen? w55 ⟨wd.heap.size + 1, 4, none⟩ = false := Blk.frozen QAb55 4
        have QAc555 : World.cell? w55 ⟨wd.heap.size + 1, 5, none⟩ = some (.int .i64 0) := Blk.get QAb55 5 rfl
        have QAf555 : World.frozen? w55 ⟨wd.heap.size + 1, 5, none⟩ = false := Blk.frozen QAb55 5
        have QAc556 : World.cell? w55 ⟨wd.heap.size + 1, 6, none⟩ = some (.bool false) := Blk.get QAb55 6 rfl
        have QAf556 : World.frozen? w55 ⟨wd.heap.size + 1, 6, none⟩ = false := Blk.frozen QAb55 6
        have QAc557 : World.cell? w55 ⟨wd.heap.size + 1, 7, none⟩ = some (.int .u64 0) := Blk.get QAb55 7 rfl
        have QAf557 : World.frozen? w55 ⟨wd.heap.size + 1, 7, none⟩ = false := Blk.frozen QAb55 7
        have QAc558 : World.cell? w55 ⟨wd.heap.size + 1, 8, none⟩ = some (.int .u64 0) := Blk.get QAb55 8 rfl
        have QAf558 : World.frozen? w55 ⟨wd.heap.size + 1, 8, none⟩ = false := Blk.frozen QAb55 8
        have QAc559 : World.cell? w55 ⟨wd.heap.size + 1, 9, none⟩ = some (.int .u64 0) := Blk.get QAb55 9 rfl
        have QAf559 : World.frozen? w55 ⟨wd.heap.size + 1, 9, none⟩ = false := Blk.frozen QAb55 9
        have QAc5510 : World.cell? w55 ⟨wd.heap.size + 1, 10, none⟩ = some (.int .u64 0) := Blk.get QAb55 10 rfl
        have QAf5510 : World.frozen? w55 ⟨wd.heap.size + 1, 10, none⟩ = false := Blk.frozen QAb55 10
        have QAc5511 : World.cell? w55 ⟨wd.heap.size + 1, 11, none⟩ = some (.int .u64 0) := Blk.get QAb55 11 rfl
        have QAf5511 : World.frozen? w55 ⟨wd.heap.size + 1, 11, none⟩ = false := Blk.frozen QAb55 11
        have QAc5512 : World.cell? w55 ⟨wd.heap.size + 1, 12, none⟩ = some (.int .u64 0) := Blk.get QAb55 12 rfl
        have QAf5512 : World.frozen? w55 ⟨wd.heap.size + 1, 12, none⟩ = false := Blk.frozen QAb55 12
        have QAc5513 : World.cell? w55 ⟨wd.heap.size + 1, 13, none⟩ = some (.int .u64 0) := Blk.get QAb55 13 rfl
        have QAf5513 : World.frozen? w55 ⟨wd.heap.size + 1, 13, none⟩ = false := Blk.frozen QAb55 13
        have QAc5514 : World.cell? w55 ⟨wd.heap.size + 1, 14, none⟩ = some (.int .u64 0) := Blk.get QAb55 14 rfl
        have QAf5514 : World.frozen? w55 ⟨wd.heap.size + 1, 14, none⟩ = false := Blk.frozen QAb55 14
        have QAc5515 : World.cell? w55 ⟨wd.heap.size + 1, 15, none⟩ = some (.int .u64 0) := Blk.get QAb55 15 rfl
        have QAf5515 : World.frozen? w55 ⟨wd.heap.size + 1, 15, none⟩ = false := Blk.frozen QAb55 15
        have QAc5516 : World.cell? w55 ⟨wd.heap.size + 1, 16, none⟩ = some (.int .i64 0) := Blk.get QAb55 16 rfl
        have QAf5516 : World.frozen? w55 ⟨wd.heap.size + 1, 16, none⟩ = false := Blk.frozen QAb55 16
        have QAc5517 : World.cell? w55 ⟨wd.heap.size + 1, 17, none⟩ = some (.int .i64 0) := Blk.get QAb55 17 rfl
        have QAf5517 : World.frozen? w55 ⟨wd.heap.size + 1, 17, none⟩ = false := Blk.frozen QAb55 17
        have QAc5518 : World.cell? w55 ⟨wd.heap.size + 1, 18, none⟩ = some (.int .i64 0) := Blk.get QAb55 18 rfl
        have QAf5518 : World.frozen? w55 ⟨wd.heap.size + 1, 18, none⟩ = false := Blk.frozen QAb55 18
        have QAc5519 : World.cell? w55 ⟨wd.heap.size + 1, 19, none⟩ = some (.int .u64 0) := Blk.get QAb55 19 rfl
        have QAf5519 : World.frozen? w55 ⟨wd.heap.size + 1, 19, none⟩ = false := Blk.frozen QAb55 19
        have QAc5520 : World.cell? w55 ⟨wd.heap.size + 1, 20, none⟩ = some (.int .i64 0) := Blk.get QAb55 20 rfl
        have QAf5520 : World.frozen? w55 ⟨wd.heap.size + 1, 20, none⟩ = false := Blk.frozen QAb55 20
        have QAc5521 : World.cell? w55 ⟨wd.heap.size + 1, 21, none⟩ = some (.int .i64 0) := Blk.get QAb55 21 rfl
        have QAf5521 : World.frozen? w55 ⟨wd.heap.size + 1, 21, none⟩ = false := Blk.frozen QAb55 21
        have QAc5522 : World.cell? w55 ⟨wd.heap.size + 1, 22, none⟩ = some (.int .u64 0) := Blk.get QAb55 22 rfl
        have QAf5522 : World.frozen? w55 ⟨wd.heap.size + 1, 22, none⟩ = false := Blk.frozen QAb55 22
        have QAc5523 : World.cell? w55 ⟨wd.heap.size + 1, 23, none⟩ = some (.int .u64 0) := Blk.get QAb55 23 rfl
        have QAf5523 : World.frozen? w55 ⟨wd.heap.size + 1, 23, none⟩ = false := Blk.frozen QAb55 23
        have QAn55 := Blk.lt QAb55
        refine hK.out _ _ (KE.out _ hb55) (fun hH55 => ?_)
        clear hK K hH
        have hH := hH55
        clear hH55
        try simp only [Act.put, List.getElem_toArray, List.getElem_cons_succ, List.getElem_cons_zero, List.setIfInBounds_toArray, List.set_cons_zero, List.set_cons_succ]
        refine wpAnyH_ready (rs := [3]) (by kernel_rfl) (by simp) ?_
        refine (AllReadyH.cons rfl (fun K hK => ?_) AllReadyH.nil)
        go_simp
        with_reducible refine (cmd_own c _ kc HAC.out.2).mono ?_
        rintro e w56 ⟨rfl, hb56'⟩
        have hb56 : Below (wd.heap.size) wd w56 := below_next hH.2 hb56'
        try go_wp2_with fail
        have QCb56 := Blk.next QCb55 hb56'
        have QCc560 : World.cell? w56 ⟨wd.heap.size, 0, none⟩ = some (.int .u8 0) := Blk.get QCb56 0 rfl
        have QCf560 : World.frozen? w56 ⟨wd.heap.size, 0, none⟩ = false := Blk.frozen QCb56 0
        have QCc561 : World.cell? w56 ⟨wd.heap.size, 1, none⟩ = some (.int .u64 0) := Blk.get QCb56 1 rfl
        have QCf561 : World.frozen? w56 ⟨wd.heap.size, 1, none⟩ = false := Blk.frozen QCb56 1
        have QCc562 : World.cell? w56 ⟨wd.heap.size, 2, none⟩ = some (.int .i64 0) := Blk.get QCb56 2 rfl
        have QCf562 : World.frozen? w56 ⟨wd.heap.size, 2, none⟩ = false := Blk.frozen QCb56 2
        have QCc563 : World.cell? w56 ⟨wd.heap.size, 3, none⟩ = some (.int .u64 0) := Blk.get QCb56 3 rfl
        have QCf563 : World.frozen? w56 ⟨wd.heap.size, 3, none⟩ = false := Blk.frozen QCb56 3
        have QCc564 : World.cell? w56 ⟨wd.heap.size, 4, none⟩ = some (.int .i64 0) := Blk.get QCb56 4 rfl
        have QCf564 : World.frozen? w56 ⟨wd.heap.size, 4, none⟩ = false := Blk.frozen QCb56 4
        have QCc565 : World.cell? w56 ⟨wd.heap.size, 5, none⟩ = some (.int .i64 0) := Blk.get QCb56 5 rfl
        have QCf565 : World.frozen? w56 ⟨wd.heap.size, 5, none⟩ = false := Blk.frozen QCb56 5
        have QCc566 : World.cell? w56 ⟨wd.heap.size, 6, none⟩ = some (.bool false) := Blk.get QCb56 6 rfl
        have QCf566 : World.frozen? w56 ⟨wd.heap.size, 6, none⟩ = false := Blk.frozen QCb56 6
        have QCc567 : World.cell? w56 ⟨wd.heap.size, 7, none⟩ = some (.int .u64 0) := Blk.get QCb56 7 rfl
        have QCf567 : World.frozen? w56 ⟨wd.heap.size, 7, none⟩ = false := Blk.frozen QCb56 7
        have QCc568 : World.cell? w56 ⟨wd.heap.size, 8, none⟩ = some (.int .u64 0) := Blk.get QCb56 8 rfl
        have QCf568 : World.frozen? w56 ⟨wd.heap.size, 8, none⟩ = false := Blk.frozen QCb56 8
        have QCc569 : World.cell? w56 ⟨wd.heap.size, 9, none⟩ = some (.int .u64 0) := Blk.get QCb56 9 rfl
        have QCf569 : World.frozen? w56 ⟨wd.heap.size, 9, none⟩ = false := Blk.frozen QCb56 9
        have QCc5610 : World.cell? w56 ⟨wd.heap.size, 10, none⟩ = some (.int .u64 0) := Blk.get QCb56 10 rfl
        have QCf5610 : World.frozen? w56 ⟨wd.heap.size, 10, none⟩ = false := Blk.frozen QCb56 10
        have QCc5611 : World.cell? w56 ⟨wd.heap.size, 11, none⟩ = some (.int .u64 0) := Blk.get QCb56 11 rfl
        have QCf5611 : World.frozen? w56 ⟨wd.heap.size, 11, none⟩ = false := Blk.frozen QCb56 11
        have QCc5612 : World.cell? w56 ⟨wd.heap.size, 12, none⟩ = some (.int .u64 0) := Blk.get QCb56 12 rfl
        have QCf5612 : World.frozen? w56 ⟨wd.heap.size, 12, none⟩ = false := Blk.frozen QCb56 12
        have QCc5613 : World.cell? w56 ⟨wd.heap.size, 13, none⟩ = some (.int .u64 0) := Blk.get QCb56 13 rfl
        have QCf5613 : World.frozen? w56 ⟨wd.heap.size, 13, none⟩ = false := Blk.frozen QCb56 13
        have QCc5614 : World.cell? w56 ⟨wd.heap.size, 14, none⟩ = some (.int .u64 0) := Blk.get QCb56 14 rfl
        have QCf5614 : World.frozen? w56 ⟨wd.heap.size, 14, none⟩ = false := Blk.frozen QCb56 14
        have QCc5615 : World.cell? w56 ⟨wd.heap.size, 15, none⟩ = some (.int .u64 0) := Blk.get QCb56 15 rfl
        have QCf5615 : World.frozen? w56 ⟨wd.heap.size, 15, none⟩ = false := Blk.frozen QCb56 15
        have QCc5616 : World.cell? w56 ⟨wd.heap.size, 16, none⟩ = some (.int .i64 0) := Blk.get QCb56 16 rfl
        have QCf5616 : World.frozen? w56 ⟨wd.heap.size, 16, none⟩ = false := Blk.frozen QCb56 16
        have QCc5617 : World.cell? w56 ⟨wd.heap.size, 17, none⟩ = some (.int .i64 0) := Blk.get QCb56 17 rfl
        have QCf5617 : World.frozen? w56 ⟨wd.heap.size, 17, none⟩ = false := Blk.frozen QCb56 17
        have QCc5618 : World.cell? w56 ⟨wd.heap.size, 18, none⟩ = some (.int .i64 0) := Blk.get QCb56 18 rfl
        have QCf5618 : World.frozen? w56 ⟨wd.heap.size, 18, none⟩ = false := Blk.frozen QCb56 18
        have QCc5619 : World.cell? w56 ⟨wd.heap.size, 19, none⟩ = some (.int .u64 0) := Blk.get QCb56 19 rfl
        have QCf5619 : World.frozen? w56 ⟨wd.heap.size, 19, none⟩ = false := Blk.frozen QCb56 19
        have QCc5620 : World.cell? w56 ⟨wd.heap.size, 20, none⟩ = some (.int .i64 0) := Blk.get QCb56 20 rfl
        have QCf5620 : World.frozen? w56 ⟨wd.heap.size, 20, none⟩ = false := Blk.frozen QCb56 20
        have QCc5621 : World.cell? w56 ⟨wd.heap.size, 21, none⟩ = some (.int .i64 0) := Blk.get QCb56 21 rfl
        have QCf5621 : World.frozen? w56 ⟨wd.heap.size, 21, none⟩ = false := Blk.frozen QCb56 21
        have QCc5622 : World.cell? w56 ⟨wd.heap.size, 22, none⟩ = some (.int .u64 0) := Blk.get QCb56 22 rfl
        have QCf5622 : World.frozen? w56 ⟨wd.heap.size, 22, none⟩ = false := Blk.frozen QCb56 22
        have QCc5623 : World.cell? w56 ⟨wd.heap.size, 23, none⟩ = some (.int .u64 0) := Blk.get QCb56 23 rfl
        have QCf5623 : World.frozen? w56 ⟨wd.heap.size, 23, none⟩ = false := Blk.frozen QCb56 23
        have QCn56 := Blk.lt QCb56
        have QAb56 := Blk.next QAb55 hb56'
        have QAc560 : World.cell? w56 ⟨wd.heap.size + 1, 0, none⟩ = some (.int .u8 0) := Blk.get QAb56 0 rfl
        have QAf560 : World.frozen? w56 ⟨wd.heap.size + 1, 0, none⟩ = false := Blk.frozen QAb56 0
        have QAc561 : World.cell? w56 ⟨wd.heap.size + 1, 1, none⟩ = some (.int .u64 0) := Blk.get QAb56 1 rfl
        have QAf561 : World.frozen? w56 ⟨wd.heap.size + 1, 1, none⟩ = false := Blk.frozen QAb56 1
        have QAc562 : World.cell? w56 ⟨wd.heap.size + 1, 2, none⟩ = some (.int .i64 0) := Blk.get QAb56 2 rfl
        have QAf562 : World.frozen? w56 ⟨wd.heap.size + 1, 2, none⟩ = false := Blk.frozen QAb56 2
        have QAc563 : World.cell? w56 ⟨wd.heap.size + 1, 3, none⟩ = some (.int .u64 0) := Blk.get QAb56 3 rfl
        have QAf563 : World.frozen? w56 ⟨wd.heap.size + 1, 3, none⟩ = false := Blk.frozen QAb56 3
        have QAc564 : World.cell? w56 ⟨wd.heap.size + 1, 4, none⟩ = some (.int .i64 0) := Blk.get QAb56 4 rfl
        have QAf564 : World.frozen? w56 ⟨wd.heap.size + 1, 4, none⟩ = false := Blk.frozen QAb56 4
        have QAc565 : World.cell? w56 ⟨wd.heap.size + 1, 5, none⟩ = some (.int .i64 0) := Blk.get QAb56 5 rfl
        have QAf565 : World.frozen? w56 ⟨wd.heap.size + 1, 5, none⟩ = false := Blk.frozen QAb56 5
        have QAc566 : World.cell? w56 ⟨wd.heap.size + 1, 6, none⟩ = some (.bool false) := Blk.get QAb56 6 rfl
        have QAf566 : World.frozen? w56 ⟨wd.heap.size + 1, 6, none⟩ = false := Blk.frozen QAb56 6
        have QAc567 : World.cell? w56 ⟨wd.heap.size + 1, 7, none⟩ = some (.int .u64 0) := Blk.get QAb56 7 rfl
        have QAf567 : World.frozen? w56 ⟨wd.heap.size + 1, 7, none⟩ = false := Blk.frozen QAb56 7
        have QAc568 : World.cell? w56 ⟨wd.heap.size + 1, 8, none⟩ = some (.int .u64 0) := Blk.get QAb56 8 rfl
        have QAf568 : World.frozen? w56 ⟨wd.heap.size + 1, 8, none⟩ = false := Blk.frozen QAb56 8
        have QAc569 : World.cell? w56 ⟨wd.heap.size + 1, 9, none⟩ = some (.int .u64 0) := Blk.get QAb56 9 rfl
        have QAf569 : World.frozen? w56 ⟨wd.heap.size + 1, 9, none⟩ = false := Blk.frozen QAb56 9
        have QAc5610 : World.cell? w56 ⟨wd.heap.size + 1, 10, none⟩ = some (.int .u64 0) := Blk.get QAb56 10 rfl
        have QAf5610 : World.frozen? w56 ⟨wd.heap.size + 1, 10, none⟩ = false := Blk.frozen QAb56 10
        have QAc5611 : World.cell? w56 ⟨wd.heap.size + 1, 11, none⟩ = some (.int .u64 0) := Blk.get QAb56 11 rfl
        have QAf5611 : World.frozen? w56 ⟨wd.heap.size + 1, 11, none⟩ = false := Blk.frozen QAb56 11
        have QAc5612 : World.cell? w56 ⟨wd.heap.size + 1, 12, none⟩ = some (.int .u64 0) := Blk.get QAb56 12 rfl
        have QAf5612 : World.frozen? w56 ⟨wd.heap.size + 1, 12, none⟩ = false := Blk.frozen QAb56 12
        have QAc5613 : World.cell? w56 ⟨wd.heap.size + 1, 13, none⟩ = some (.int .u64 0) := Blk.get QAb56 13 rfl
        have QAf5613 : World.frozen? w56 ⟨wd.heap.size + 1, 13, none⟩ = false := Blk.frozen QAb56 13
        have QAc5614 : World.cell? w56 ⟨wd.heap.size + 1, 14, none⟩ = some (.int .u64 0) := Blk.get QAb56 14 rfl
        have QAf5614 : World.frozen? w56 ⟨wd.heap.size + 1, 14, none⟩ = false := Blk.frozen QAb56 14
        have QAc5615 : World.cell? w56 ⟨wd.heap.size + 1, 15, none⟩ = some (.int .u64 0) := Blk.get QAb56 15 rfl
        have QAf5615 : World.frozen? w56 ⟨wd.heap.size + 1, 15, none⟩ = false := Blk.frozen QAb56 15
        have QAc5616 : World.cell? w56 ⟨wd.heap.size + 1, 16, none⟩ = some (.int .i64 0) := Blk.get QAb56 16 rfl
        have QAf5616 : World.frozen? w56 ⟨wd.heap.size + 1, 16, none⟩ = false := Blk.frozen QAb56 16
        have QAc5617 : World.cell? w56 ⟨wd.heap.size + 1, 17, none⟩ = some (.int .i64 0) := Blk.get QAb56 17 rfl
        have QAf5617 : World.frozen? w56 ⟨wd.heap.size + 1, 17, none⟩ = false := Blk.frozen QAb56 17
        have QAc5618 : World.cell? w56 ⟨wd.heap.size + 1, 18, none⟩ = some (.int .i64 0) := Blk.get QAb56 18 rfl
        have QAf5618 : World.frozen? w56 ⟨wd.heap.size + 1, 18, none⟩ = false := Blk.frozen QAb56 18
        have QAc5619 : World.cell? w56 ⟨wd.heap.size + 1, 19, none⟩ = some (.int .u64 0) := Blk.get QAb56 19 rfl
        have QAf5619 : World.frozen? w56 ⟨wd.heap.size + 1, 19, none⟩ = false := Blk.frozen QAb56 19
        have QAc5620 : World.cell? w56 ⟨wd.heap.size + 1, 20, none⟩ = some (.int .i64 0) := Blk.get QAb56 20 rfl
        have QAf5620 : World.frozen? w56 ⟨wd.heap.size + 1, 20, none⟩ = false := Blk.frozen QAb56 20
        have QAc5621 : World.cell? w56 ⟨wd.heap.size + 1, 21, none⟩ = some (.int .i64 0) := Blk.get QAb56 21 rfl
        have QAf5621 : World.frozen? w56 ⟨wd.heap.size + 1, 21, none⟩ = false := Blk.frozen QAb56 21
        have QAc5622 : World.cell? w56 ⟨wd.heap.size + 1, 22, none⟩ = some (.int .u64 0) := Blk.get QAb56 22 rfl
        have QAf5622 : World.frozen? w56 ⟨wd.heap.size + 1, 22, none⟩ = false := Blk.frozen QAb56 22
        have QAc5623 : World.cell? w56 ⟨wd.heap.size + 1, 23, none⟩ = some (.int .u64 0) := Blk.get QAb56 23 rfl
        have QAf5623 : World.frozen? w56 ⟨wd.heap.size + 1, 23, none⟩ = false := Blk.frozen QAb56 23
        have QAn56 := Blk.lt QAb56
        refine hK.out _ _ (KE.out _ hb56) (fun hH56 => ?_)
        clear hK K hH
        have hH := hH56
        clear hH56
        try simp only [Act.put, List.getElem_toArray, List.getElem_cons_succ, List.getElem_cons_zero, List.setIfInBounds_toArray, List.set_cons_zero, List.set_cons_succ]
        refine wpAnyH_ready (rs := [6]) (by kernel_rfl) (by simp) ?_
        refine (AllReadyH.cons rfl (fun K hK => ?_) AllReadyH.nil)
        rw [if_pos (by rfl)]
        refine wp_store_blk 32 _ _ rfl (wd.heap.size + 1) (rowA cmdT 24 (ownC ka a)) _ rfl rfl 32 (QAb56) (by simp [rowA_size]) (by rw [rowA_size]; kernel_rfl) rowA_one ?_
        intro w57 hst57 hfr57
        have hb57 := Below.trans (hb56) (hfr57.below (Below.size (hb56)) (fun k hk e => by have := QGQA; omega))
        have QAb57 := hst57
        have QCb57 := Blk.fr (QCb56) hfr57 (by show ¬ (_ = _); first |assumption |exact Ne.symm (by assumption) |omega)
        refine hK.out _ _ (KE.out _ hb57) (fun hH57 => ?_)
        clear hK K hH
        have hH := hH57
        clear hH57
        try simp only [Act.put, List.getElem_toArray, List.getElem_cons_succ, List.getElem_cons_zero, List.setIfInBounds_toArray, List.set_cons_zero, List.set_cons_succ]
        refine wpAnyH_ready (rs := [7]) (by kernel_rfl) (by simp) ?_
        refine (AllReadyH.cons rfl (fun K hK => ?_) AllReadyH.nil)
        rw [if_pos (by rfl)]
        refine wp_store_blk 32 _ _ rfl (wd.heap.size) (rowA cmdT 24 (ownC kc c)) _ rfl rfl 32 (QCb57) (by simp [rowA_size]) (by rw [rowA_size]; kernel_rfl) rowA_one ?_
        intro w58 hst58 hfr58
        have hb58 := Below.trans (hb57) (hfr58.below (Below.size (hb57)) (fun k hk e => by have := QGQC; omega))
        have QCb58 := hst58
        have QAb58 := Blk.fr (QAb57) hfr58 (by show ¬ (_ = _); first |assumption |exact Ne.symm (by assumption) |omega)
        refine hK.out _ _ (KE.out _ hb58) (fun hH58 => ?_)
        clear hK K hH
        have hH := hH58
        clear hH58
        try simp only [Act.put, List.getElem_toArray, List.getElem_cons_succ, List.getElem_cons_zero, List.setIfInBounds_toArray, List.set_cons_zero, List.set_cons_succ]
        refine wpAnyH_done (by kernel_rfl) ?_ _
        refine NoPanic.normal ?_
        have p1 := QAb58
        have p2 := QCb58
        rw [zero_cmd, rowA_whole] at p1 p2
        have p3 := hl.out.next hb58
        go_wp2_with fail
        go_meet
        exact ⟨_, _, rfl, rfl, p1, p2, p3⟩
  case rest =>
    obtain ⟨q1, q2, rfl, rfl, h1, h2, h3⟩ := hcut
    have H1 := Lib.hid h1
    have H2 := Lib.hid h2
    replace hl := Lib.hid h3
    clear h1 h2 h3
    obtain ⟨we, rfl⟩ : ∃ x : World, x = wc := ⟨_, rfl⟩
    go_wp2_with (first | (refine wpList_load_blk rfl 32 _ rfl q1 rfl 32 _ _ (H1.out) Try.underlying32 rfl (by rw [rowA_size]; kernel_rfl) ?_))
    with_reducible refine (HCA.out we).mono ?_
    rintro e wf ⟨rfl, hb1⟩
    replace hl := Lib.hid (hl.out.next hb1)
    replace H1 := Lib.hid (H1.out.next hb1)
    replace H2 := Lib.hid (H2.out.next hb1)
    clear hb1
    go_wp2_with (first | (refine wpList_load_blk rfl 32 _ rfl q2 rfl 32 _ _ (H2.out) Try.underlying32 rfl (by rw [rowA_size]; kernel_rfl) ?_))
    with_reducible refine (HCC.out wf).mono ?_
    rintro e wg ⟨rfl, hb1⟩
    replace hl := Lib.hid (hl.out.next hb1)
    replace H1 := Lib.hid (H1.out.next hb1)
    replace H2 := Lib.hid (H2.out.next hb1)
    clear hb1
    go_wp2_with (first | (refine wpList_load_blk rfl 41 _ rfl (b + 2) rfl 41 _ _ (hl.out.r) Try.underlying41 rfl (by rw [rowA_size]; kernel_rfl) ?_))
    with_reducible refine (HCU.out wg).mono ?_
    rintro e wh ⟨rfl, hb1⟩
    replace hl := Lib.hid (hl.out.next hb1)
    replace H1 := Lib.hid (H1.out.next hb1)
    replace H2 := Lib.hid (H2.out.next hb1)
    clear hb1
    go_wp2_with (first | (refine wpList_load_blk rfl 41 _ rfl (b + 3) rfl 41 _ _ (hl.out.s) Try.underlying41 rfl (by rw [rowA_size]; kernel_rfl) ?_))
    with_reducible refine (HCV.out wh).mono ?_
    rintro e wi ⟨rfl, hb1⟩
    replace hl := Lib.hid (hl.out.next hb1)
    replace H1 := Lib.hid (H1.out.next hb1)
    replace H2 := Lib.hid (H2.out.next hb1)
    clear hb1
    go_wp2_with (first | (refine wpList_load_blk rfl 32 _ rfl q1 rfl 32 _ _ (H1.out) Try.underlying32 rfl (by rw [rowA_size]; kernel_rfl) ?_) | (refine wpList_load_blk rfl 32 _ rfl q2 rfl 32 _ _ (H2.out) Try.underlying32 rfl (by rw [rowA_size]; kernel_rfl) ?_) | (refine wpList_load_blk rfl 41 _ rfl (b + 2) rfl 41 _ _ (hl.out.r) Try.underlying41 rfl (by rw [rowA_size]; kernel_rfl) ?_) | (refine wpList_load_blk rfl 41 _ rfl (b + 3) rfl 41 _ _ (hl.out.s) Try.underlying41 rfl (by rw [rowA_size]; kernel_rfl) ?_) | (refine wpList_cmp rfl false 41 _ _ _ rfl _ _ rfl rfl rr (by kernel_rfl) (HER.out _) ?_))
    go_ret
    exact ⟨by simp, hl.out.below⟩

end Go.Proofs.Ytbageagobalgbaa
