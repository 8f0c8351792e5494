/-
  The law CommandOne, walked.
-/
import Derived.Test.YtbageagobalgbaaProg
import Derived.Test.YtbageagobalgbaaCmdX
namespace Go.Proofs.Ytbageagobalgbaa
set_option linter.unusedVariables false
set_option linter.unusedSimpArgs false
set_option maxRecDepth 100000
open Go.RowKit

/-- A command and a reply that were read, in blocks. -/
structure LawQ (w W : World) (b qc qr : Nat) (X Y : Array Value) : Prop where
  x : Blk W qc 32 X
  y : Blk W qr 41 Y
  below : Below b w W
  le : b ≤ W.heap.size
theorem LawQ.next {w W W' : World} {b qc qr : Nat} {X Y : Array Value} (h : LawQ w W b qc qr X Y) (hb : Below W.heap.size W W') : LawQ w W' b qc qr X Y :=
  ⟨h.x.next hb, h.y.next hb, h.below.trans (hb.mono h.le), Nat.le_trans h.le hb.size⟩

set_option maxHeartbeats 16000000 in
theorem cone_n (l : List Nat) (c : Nat → Int) (k : Nat) (some more : Int) (w : World) (hb : Bytes l) (hl : l.length ≤ 500) (x0 : 0 ≤ more) (x1 : more < 256) (h : Nobody l) :
    Calls Try.prog 5 #[.string (bs l), .int .i64 some, .int .u8 more] w fun e w' => e = .returned (.bool true) ∧ Below w.heap.size w w' := by
  have hsz : (bs l).size = l.length := bs_size l
  obtain ⟨n, hn⟩ : ∃ n, l.length = n := ⟨_, rfl⟩
  rw [hn] at hl hsz
  have RC : Hid (∀ w, Calls Try.prog 7 #[.string (bs l)] w fun e w' => e = .returned (.tuple #[.agg (rowA cmdT 24 fun _ => 0), .int .i64 140]) ∧ Below w.heap.size w w') := fun w => h.read hb w
  have RR : Hid (∀ w, Calls Try.prog 9 #[.string (bs l)] w fun e w' => e = .returned (.tuple #[.agg (rowA replyT 10 fun _ => 0), .int .i64 140]) ∧ Below w.heap.size w w') := fun w => h.rread hb w
  clear h
  have HNN := Lib.hid hn
  have d5 : decide ((500 : Int) < (n : Int)) = false := decide_eq_false (by omega)
  have d6 : decide (500 < n) = false := decide_eq_false (by omega)
  obtain ⟨b, hbb⟩ : ∃ b, w.heap.size = b := ⟨_, rfl⟩
  rw [hbb]
  have HBB := Lib.hid hbb
  have HBY := Lib.hid hb
  clear hbb hb hn hl
  go_enter Try.func5, Try.ntmps5
  go_wp2_with fail
  with_reducible refine (cmdAwake w).mono ?_
  rintro e w1 ⟨rfl, hb1⟩
  have B1 : Hid (Below b w w1 ∧ b ≤ w1.heap.size) := by rw [HBB.out] at hb1; exact ⟨hb1, by have := hb1.size; rw [HBB.out] at this; exact this⟩
  clear hb1
  go_wp2_with fail
  with_reducible refine (RC.out w1).mono ?_
  rintro e w2 ⟨rfl, hb1⟩
  replace B1 := Lib.hid (And.intro (B1.out.1.trans (hb1.mono B1.out.2)) (Nat.le_trans B1.out.2 hb1.size))
  clear hb1 RC
  go_wp2_with (first | (refine wpList_store_part rfl 32 _ _ rfl _ 0 _ rfl rfl 32 _ (Blk.new_at (by simp)) (by simp [rowA_size]) (by rw [rowA_size]; kernel_rfl) rowA_one ?_; intro w3 hbN hfN; rw [zero_cmd, rowA_whole] at hbN; rw [zero_cmd] at hfN; have HN_ := Lib.hid (And.intro hbN (Below.trans ((Below.refl w2.heap.size w2).alloc (Nat.le_refl _) _) (hfN.below (by rw [World.size_alloc]; omega) (fun k hk e => by omega)))); clear hbN hfN))
  obtain ⟨qc, hqc⟩ : ∃ q, w2.heap.size = q := ⟨_, rfl⟩
  replace B1 := Lib.hid (And.intro (B1.out.1.trans (HN_.out.2.mono B1.out.2)) (Nat.le_trans B1.out.2 HN_.out.2.size))
  rw [hqc] at HN_ ⊢
  have HQC := Lib.hid HN_.out.1
  clear hqc HN_
  with_reducible refine (RR.out w3).mono ?_
  rintro e w4 ⟨rfl, hb1⟩
  replace B1 := Lib.hid (And.intro (B1.out.1.trans (hb1.mono B1.out.2)) (Nat.le_trans B1.out.2 hb1.size))
  replace HQC := Lib.hid (HQC.out.next hb1)
  clear hb1 RR
  go_upto_region 7 with (first | (refine wpList_store_part rfl 41 _ _ rfl _ 0 _ rfl rfl 41 _ (Blk.new_at (by simp)) (by simp [rowA_size]) (by rw [rowA_size]; kernel_rfl) rowA_one ?_; intro w5 hbN hfN; rw [zero_reply, rowA_whole] at hbN; rw [zero_reply] at hfN; have HN_ := Lib.hid (And.intro hbN (Below.trans ((Below.refl w4.heap.size w4).alloc (Nat.le_refl _) _) (hfN.below (by rw [World.size_alloc]; omega) (fun k hk e => by omega)))); clear hbN hfN))
  obtain ⟨qr, hqr⟩ : ∃ q, w4.heap.size = q := ⟨_, rfl⟩
  replace B1 := Lib.hid (And.intro (B1.out.1.trans (HN_.out.2.mono B1.out.2)) (Nat.le_trans B1.out.2 HN_.out.2.size))
  have HQ : Hid (LawQ w w5 b qc qr (rowA cmdT 24 fun _ => 0) (rowA replyT 10 fun _ => 0)) := ⟨HQC.out.next HN_.out.2, by rw [← hqr]; exact HN_.out.1, B1.out.1, B1.out.2⟩
  rw [hqr]
  clear hqr HN_ HQC B1
  go_wp2_with (first | (refine wpList_load_blk rfl 32 _ rfl qc rfl 32 _ _ (HQ.out.x) Try.underlying32 rfl (by rw [rowA_size]; kernel_rfl) ?_) | (refine wpList_load_blk rfl 41 _ rfl qr rfl 41 _ _ (HQ.out.y) Try.underlying41 rfl (by rw [rowA_size]; kernel_rfl) ?_) | (refine wpList_cmp rfl true 32 _ _ _ rfl _ _ rfl rfl false (by kernel_rfl) (eqZ _) ?_) | (refine wpList_cmp rfl true 41 _ _ _ rfl _ _ rfl rfl false (by kernel_rfl) (eqZr _) ?_))
  go_ret
  exact ⟨by simp, HQ.out.below⟩

set_option maxHeartbeats 16000000 in
theorem cone_c (l : List Nat) (c : Nat → Int) (k : Nat) (some more : Int) (w : World) (hb : Bytes l) (hl : l.length ≤ 500) (x0 : 0 ≤ more) (x1 : more < 256) (h : Told l c k) :
    Calls Try.prog 5 #[.string (bs l), .int .i64 some, .int .u8 more] w fun e w' => e = .returned (.bool true) ∧ Below w.heap.size w w' := by
  have hsz : (bs l).size = l.length := bs_size l
  obtain ⟨n, hn⟩ : ∃ n, l.length = n := ⟨_, rfl⟩
  rw [hn] at hl hsz
  have RC : Hid (∀ w, Calls Try.prog 7 #[.string (bs l)] w fun e w' => e = .returned (.tuple #[.agg (rowA cmdT 24 c), .int .i64 0]) ∧ Below w.heap.size w w') := fun w => read_told w h
  have RR : Hid (∀ w, Calls Try.prog 9 #[.string (bs l)] w fun e w' => e = .returned (.tuple #[.agg (rowA replyT 10 fun _ => 0), .int .i64 140]) ∧ Below w.heap.size w w') := fun w => rread_else w hb (told_r h)
  have TL := Lib.hid h.tell
  have hn0 : 0 < n := by rw [← hn]; rw [h.bytes]; simp
  obtain ⟨f, m, hf, hf0, hm, hmt, hmn⟩ := cut_parts some n hn0 hl
  have NB : Nobody (l.take m) := told_cut h m (by rw [hn]; exact hmn)
  have NM : Nobody (l ++ [more.toNat]) := told_more h _ (byte_nat x0 x1)
  have e1 : (bs l).extract 0 m = bs (l.take m) := bs_take' l m (by rw [hn]; exact Nat.le_of_lt hmn)
  have CR := Lib.hid (fun w => NB.read (fun x hx => hb x (List.mem_of_mem_take hx)) w)
  have CW := Lib.hid (fun w => NB.rread (fun x hx => hb x (List.mem_of_mem_take hx)) w)
  have MR := Lib.hid (fun w => NM.read (hb.app (bytes_one (byte_nat x0 x1))) w)
  have MW := Lib.hid (fun w => NM.rread (hb.app (bytes_one (byte_nat x0 x1))) w)
  have AD := Lib.hid (add_bs l [more.toNat] (add_room (hn ▸ hl)))
  have CV := Lib.hid (fun W => conv_one more x0 x1 W)
  have ew := u64_nat hl
  have em := w64_nat (n := m) (Nat.le_trans (Nat.le_of_lt hmn) hl)
  have ez : ((n : Int) = 0) = False := eq_false (ne_nat hn0)
  have ez2 : (n = 0) = False := eq_false (Nat.ne_of_gt hn0)
  have mn : m ≤ n := Nat.le_of_lt hmn
  have hss : ((bs l).toList == (bs l).toList) = true := beq_self_eq_true _
  clear NB NM
  clear h
  have HNN := Lib.hid hn
  have d5 : decide ((500 : Int) < (n : Int)) = false := decide_eq_false (by omega)
  have d6 : decide (500 < n) = false := decide_eq_false (by omega)
  obtain ⟨b, hbb⟩ : ∃ b, w.heap.size = b := ⟨_, rfl⟩
  rw [hbb]
  have HBB := Lib.hid hbb
  have HBY := Lib.hid hb
  clear hbb hb hn hl
  go_enter Try.func5, Try.ntmps5
  go_wp2_with fail
  with_reducible refine (cmdAwake w).mono ?_
  rintro e w1 ⟨rfl, hb1⟩
  have B1 : Hid (Below b w w1 ∧ b ≤ w1.heap.size) := by rw [HBB.out] at hb1; exact ⟨hb1, by have := hb1.size; rw [HBB.out] at this; exact this⟩
  clear hb1
  go_wp2_with fail
  with_reducible refine (RC.out w1).mono ?_
  rintro e w2 ⟨rfl, hb1⟩
  replace B1 := Lib.hid (And.intro (B1.out.1.trans (hb1.mono B1.out.2)) (Nat.le_trans B1.out.2 hb1.size))
  clear hb1 RC
  go_wp2_with (first | (refine wpList_store_part rfl 32 _ _ rfl _ 0 _ rfl rfl 32 _ (Blk.new_at (by simp)) (by simp [rowA_size]) (by rw [rowA_size]; kernel_rfl) rowA_one ?_; intro w3 hbN hfN; rw [zero_cmd, rowA_whole] at hbN; rw [zero_cmd] at hfN; have HN_ := Lib.hid (And.intro hbN (Below.trans ((Below.refl w2.heap.size w2).alloc (Nat.le_refl _) _) (hfN.below (by rw [World.size_alloc]; omega) (fun k hk e => by omega)))); clear hbN hfN))
  obtain ⟨qc, hqc⟩ : ∃ q, w2.heap.size = q := ⟨_, rfl⟩
  replace B1 := Lib.hid (And.intro (B1.out.1.trans (HN_.out.2.mono B1.out.2)) (Nat.le_trans B1.out.2 HN_.out.2.size))
  rw [hqc] at HN_ ⊢
  have HQC := Lib.hid HN_.out.1
  clear hqc HN_
  with_reducible refine (RR.out w3).mono ?_
  rintro e w4 ⟨rfl, hb1⟩
  replace B1 := Lib.hid (And.intro (B1.out.1.trans (hb1.mono B1.out.2)) (Nat.le_trans B1.out.2 hb1.size))
  replace HQC := Lib.hid (HQC.out.next hb1)
  clear hb1 RR
  go_upto_region 7 with (first | (refine wpList_store_part rfl 41 _ _ rfl _ 0 _ rfl rfl 41 _ (Blk.new_at (by simp)) (by simp [rowA_size]) (by rw [rowA_size]; kernel_rfl) rowA_one ?_; intro w5 hbN hfN; rw [zero_reply, rowA_whole] at hbN; rw [zero_reply] at hfN; have HN_ := Lib.hid (And.intro hbN (Below.trans ((Below.refl w4.heap.size w4).alloc (Nat.le_refl _) _) (hfN.below (by rw [World.size_alloc]; omega) (fun k hk e => by omega)))); clear hbN hfN))
  obtain ⟨qr, hqr⟩ : ∃ q, w4.heap.size = q := ⟨_, rfl⟩
  replace B1 := Lib.hid (And.intro (B1.out.1.trans (HN_.out.2.mono B1.out.2)) (Nat.le_trans B1.out.2 HN_.out.2.size))
  have HQ : Hid (LawQ w w5 b qc qr (rowA cmdT 24 c) (rowA replyT 10 fun _ => 0)) := ⟨HQC.out.next HN_.out.2, by rw [← hqr]; exact HN_.out.1, B1.out.1, B1.out.2⟩
  rw [hqr]
  clear hqr HN_ HQC B1
  go_wp2_with (first | (refine wpList_load_blk rfl 32 _ rfl qc rfl 32 _ _ (HQ.out.x) Try.underlying32 rfl (by rw [rowA_size]; kernel_rfl) ?_) | (refine wpList_load_blk rfl 41 _ rfl qr rfl 41 _ _ (HQ.out.y) Try.underlying41 rfl (by rw [rowA_size]; kernel_rfl) ?_) | (refine wpList_cmp rfl true 32 _ _ _ rfl _ _ rfl rfl false (by kernel_rfl) (eqZ _) ?_) | (refine wpList_cmp rfl true 41 _ _ _ rfl _ _ rfl rfl false (by kernel_rfl) (eqZr _) ?_))
  with_reducible refine (TL.out w5).mono ?_
  rintro e w6 ⟨rfl, hb1⟩
  replace HQ := Lib.hid (HQ.out.next hb1)
  clear hb1 TL
  go_wp2_with (first | (refine wpList_load_blk rfl 32 _ rfl qc rfl 32 _ _ (HQ.out.x) Try.underlying32 rfl (by rw [rowA_size]; kernel_rfl) ?_) | (refine wpList_load_blk rfl 41 _ rfl qr rfl 41 _ _ (HQ.out.y) Try.underlying41 rfl (by rw [rowA_size]; kernel_rfl) ?_))
  with_reducible refine (CR.out w6).mono ?_
  rintro e w7 ⟨rfl, hb1⟩
  replace HQ := Lib.hid (HQ.out.next hb1)
  clear hb1 CR
  go_wp2_with (first | (refine wpList_store_part rfl 32 _ _ rfl _ 0 _ rfl rfl 32 _ (Blk.new_at (by simp)) (by simp [rowA_size]) (by rw [rowA_size]; kernel_rfl) rowA_one ?_; intro w8 hbN hfN; rw [zero_cmd, rowA_whole] at hbN; rw [zero_cmd] at hfN; have HN_ := Lib.hid (And.intro hbN (Below.trans ((Below.refl w7.heap.size w7).alloc (Nat.le_refl _) _) (hfN.below (by rw [World.size_alloc]; omega) (fun k hk e => by omega)))); clear hbN hfN))
  replace HQ := Lib.hid (HQ.out.next HN_.out.2)
  clear HN_
  with_reducible refine (CW.out w8).mono ?_
  rintro e w9 ⟨rfl, hb1⟩
  replace HQ := Lib.hid (HQ.out.next hb1)
  clear hb1 CW
  have cv := CV.out
  have ad := AD.out
  go_wp2_with (first | (refine wpList_store_part rfl 41 _ _ rfl _ 0 _ rfl rfl 41 _ (Blk.new_at (by simp)) (by simp [rowA_size]) (by rw [rowA_size]; kernel_rfl) rowA_one ?_; intro w10 hbN hfN; rw [zero_reply, rowA_whole] at hbN; rw [zero_reply] at hfN; have HN_ := Lib.hid (And.intro hbN (Below.trans ((Below.refl w9.heap.size w9).alloc (Nat.le_refl _) _) (hfN.below (by rw [World.size_alloc]; omega) (fun k hk e => by omega)))); clear hbN hfN))
  replace HQ := Lib.hid (HQ.out.next HN_.out.2)
  clear HN_
  with_reducible refine (MR.out _).mono ?_
  rintro e w11 ⟨rfl, hb1⟩
  replace HQ := Lib.hid ((HQ.out.next ((Below.refl _ _).alloc (Nat.le_refl _) _)).next hb1)
  clear hb1
  go_wp2_with (first | (refine wpList_store_part rfl 32 _ _ rfl _ 0 _ rfl rfl 32 _ (Blk.new_at (by simp)) (by simp [rowA_size]) (by rw [rowA_size]; kernel_rfl) rowA_one ?_; intro w12 hbN hfN; rw [zero_cmd, rowA_whole] at hbN; rw [zero_cmd] at hfN; have HN_ := Lib.hid (And.intro hbN (Below.trans ((Below.refl w11.heap.size w11).alloc (Nat.le_refl _) _) (hfN.below (by rw [World.size_alloc]; omega) (fun k hk e => by omega)))); clear hbN hfN))
  replace HQ := Lib.hid (HQ.out.next HN_.out.2)
  clear HN_
  with_reducible refine (MW.out _).mono ?_
  rintro e w13 ⟨rfl, hb1⟩
  replace HQ := Lib.hid ((HQ.out.next ((Below.refl _ _).alloc (Nat.le_refl _) _)).next hb1)
  clear hb1
  go_wp2_with (first | (refine wpList_store_part rfl 41 _ _ rfl _ 0 _ rfl rfl 41 _ (Blk.new_at (by simp)) (by simp [rowA_size]) (by rw [rowA_size]; kernel_rfl) rowA_one ?_; intro w14 hbN hfN; rw [zero_reply, rowA_whole] at hbN; rw [zero_reply] at hfN; have HN_ := Lib.hid (And.intro hbN (Below.trans ((Below.refl w13.heap.size w13).alloc (Nat.le_refl _) _) (hfN.below (by rw [World.size_alloc]; omega) (fun k hk e => by omega)))); clear hbN hfN))
  go_ret
  exact ⟨by simp, (HQ.out.next HN_.out.2).below⟩

set_option maxHeartbeats 16000000 in
theorem cone_r (l : List Nat) (c : Nat → Int) (k : Nat) (some more : Int) (w : World) (hb : Bytes l) (hl : l.length ≤ 500) (x0 : 0 ≤ more) (x1 : more < 256) (h : RTold l c) :
    Calls Try.prog 5 #[.string (bs l), .int .i64 some, .int .u8 more] w fun e w' => e = .returned (.bool true) ∧ Below w.heap.size w w' := by
  have hsz : (bs l).size = l.length := bs_size l
  obtain ⟨n, hn⟩ : ∃ n, l.length = n := ⟨_, rfl⟩
  rw [hn] at hl hsz
  have RC : Hid (∀ w, Calls Try.prog 7 #[.string (bs l)] w fun e w' => e = .returned (.tuple #[.agg (rowA cmdT 24 fun _ => 0), .int .i64 140]) ∧ Below w.heap.size w w') := fun w => read_else w hb (r_told h)
  have RR : Hid (∀ w, Calls Try.prog 9 #[.string (bs l)] w fun e w' => e = .returned (.tuple #[.agg (rowA replyT 10 c), .int .i64 0]) ∧ Below w.heap.size w w') := fun w => rread_told w h
  have TL := Lib.hid h.tell
  have hn0 : 0 < n := by rw [← hn]; rw [h.bytes]; simp
  obtain ⟨f, m, hf, hf0, hm, hmt, hmn⟩ := cut_parts some n hn0 hl
  have NB : Nobody (l.take m) := rtold_cut h m (by rw [hn]; exact hmn)
  have NM : Nobody (l ++ [more.toNat]) := rtold_more h _ (byte_nat x0 x1)
  have e1 : (bs l).extract 0 m = bs (l.take m) := bs_take' l m (by rw [hn]; exact Nat.le_of_lt hmn)
  have CR := Lib.hid (fun w => NB.read (fun x hx => hb x (List.mem_of_mem_take hx)) w)
  have CW := Lib.hid (fun w => NB.rread (fun x hx => hb x (List.mem_of_mem_take hx)) w)
  have MR := Lib.hid (fun w => NM.read (hb.app (bytes_one (byte_nat x0 x1))) w)
  have MW := Lib.hid (fun w => NM.rread (hb.app (bytes_one (byte_nat x0 x1))) w)
  have AD := Lib.hid (add_bs l [more.toNat] (add_room (hn ▸ hl)))
  have CV := Lib.hid (fun W => conv_one more x0 x1 W)
  have ew := u64_nat hl
  have em := w64_nat (n := m) (Nat.le_trans (Nat.le_of_lt hmn) hl)
  have ez : ((n : Int) = 0) = False := eq_false (ne_nat hn0)
  have ez2 : (n = 0) = False := eq_false (Nat.ne_of_gt hn0)
  have mn : m ≤ n := Nat.le_of_lt hmn
  have hss : ((bs l).toList == (bs l).toList) = true := beq_self_eq_true _
  clear NB NM
  clear h
  have HNN := Lib.hid hn
  have d5 : decide ((500 : Int) < (n : Int)) = false := decide_eq_false (by omega)
  have d6 : decide (500 < n) = false := decide_eq_false (by omega)
  obtain ⟨b, hbb⟩ : ∃ b, w.heap.size = b := ⟨_, rfl⟩
  rw [hbb]
  have HBB := Lib.hid hbb
  have HBY := Lib.hid hb
  clear hbb hb hn hl
  go_enter Try.func5, Try.ntmps5
  go_wp2_with fail
  with_reducible refine (cmdAwake w).mono ?_
  rintro e w1 ⟨rfl, hb1⟩
  have B1 : Hid (Below b w w1 ∧ b ≤ w1.heap.size) := by rw [HBB.out] at hb1; exact ⟨hb1, by have := hb1.size; rw [HBB.out] at this; exact this⟩
  clear hb1
  go_wp2_with fail
  with_reducible refine (RC.out w1).mono ?_
  rintro e w2 ⟨rfl, hb1⟩
  replace B1 := Lib.hid (And.intro (B1.out.1.trans (hb1.mono B1.out.2)) (Nat.le_trans B1.out.2 hb1.size))
  clear hb1 RC
  go_wp2_with (first | (refine wpList_store_part rfl 32 _ _ rfl _ 0 _ rfl rfl 32 _ (Blk.new_at (by simp)) (by simp [rowA_size]) (by rw [rowA_size]; kernel_rfl) rowA_one ?_; intro w3 hbN hfN; rw [zero_cmd, rowA_whole] at hbN; rw [zero_cmd] at hfN; have HN_ := Lib.hid (And.intro hbN (Below.trans ((Below.refl w2.heap.size w2).alloc (Nat.le_refl _) _) (hfN.below (by rw [World.size_alloc]; omega) (fun k hk e => by omega)))); clear hbN hfN))
  obtain ⟨qc, hqc⟩ : ∃ q, w2.heap.size = q := ⟨_, rfl⟩
  replace B1 := Lib.hid (And.intro (B1.out.1.trans (HN_.out.2.mono B1.out.2)) (Nat.le_trans B1.out.2 HN_.out.2.size))
  rw [hqc] at HN_ ⊢
  have HQC := Lib.hid HN_.out.1
  clear hqc HN_
  with_reducible refine (RR.out w3).mono ?_
  rintro e w4 ⟨rfl, hb1⟩
  replace B1 := Lib.hid (And.intro (B1.out.1.trans (hb1.mono B1.out.2)) (Nat.le_trans B1.out.2 hb1.size))
  replace HQC := Lib.hid (HQC.out.next hb1)
  clear hb1 RR
  go_upto_region 7 with (first | (refine wpList_store_part rfl 41 _ _ rfl _ 0 _ rfl rfl 41 _ (Blk.new_at (by simp)) (by simp [rowA_size]) (by rw [rowA_size]; kernel_rfl) rowA_one ?_; intro w5 hbN hfN; rw [zero_reply, rowA_whole] at hbN; rw [zero_reply] at hfN; have HN_ := Lib.hid (And.intro hbN (Below.trans ((Below.refl w4.heap.size w4).alloc (Nat.le_refl _) _) (hfN.below (by rw [World.size_alloc]; omega) (fun k hk e => by omega)))); clear hbN hfN))
  obtain ⟨qr, hqr⟩ : ∃ q, w4.heap.size = q := ⟨_, rfl⟩
  replace B1 := Lib.hid (And.intro (B1.out.1.trans (HN_.out.2.mono B1.out.2)) (Nat.le_trans B1.out.2 HN_.out.2.size))
  have HQ : Hid (LawQ w w5 b qc qr (rowA cmdT 24 fun _ => 0) (rowA replyT 10 c)) := ⟨HQC.out.next HN_.out.2, by rw [← hqr]; exact HN_.out.1, B1.out.1, B1.out.2⟩
  rw [hqr]
  clear hqr HN_ HQC B1
  go_wp2_with (first | (refine wpList_load_blk rfl 32 _ rfl qc rfl 32 _ _ (HQ.out.x) Try.underlying32 rfl (by rw [rowA_size]; kernel_rfl) ?_) | (refine wpList_load_blk rfl 41 _ rfl qr rfl 41 _ _ (HQ.out.y) Try.underlying41 rfl (by rw [rowA_size]; kernel_rfl) ?_) | (refine wpList_cmp rfl true 32 _ _ _ rfl _ _ rfl rfl false (by kernel_rfl) (eqZ _) ?_) | (refine wpList_cmp rfl true 41 _ _ _ rfl _ _ rfl rfl false (by kernel_rfl) (eqZr _) ?_))
  with_reducible refine (TL.out w5).mono ?_
  rintro e w6 ⟨rfl, hb1⟩
  replace HQ := Lib.hid (HQ.out.next hb1)
  clear hb1 TL
  go_wp2_with (first | (refine wpList_load_blk rfl 32 _ rfl qc rfl 32 _ _ (HQ.out.x) Try.underlying32 rfl (by rw [rowA_size]; kernel_rfl) ?_) | (refine wpList_load_blk rfl 41 _ rfl qr rfl 41 _ _ (HQ.out.y) Try.underlying41 rfl (by rw [rowA_size]; kernel_rfl) ?_))
  with_reducible refine (CR.out w6).mono ?_
  rintro e w7 ⟨rfl, hb1⟩
  replace HQ := Lib.hid (HQ.out.next hb1)
  clear hb1 CR
  go_wp2_with (first | (refine wpList_store_part rfl 32 _ _ rfl _ 0 _ rfl rfl 32 _ (Blk.new_at (by simp)) (by simp [rowA_size]) (by rw [rowA_size]; kernel_rfl) rowA_one ?_; intro w8 hbN hfN; rw [zero_cmd, rowA_whole] at hbN; rw [zero_cmd] at hfN; have HN_ := Lib.hid (And.intro hbN (Below.trans ((Below.refl w7.heap.size w7).alloc (Nat.le_refl _) _) (hfN.below (by rw [World.size_alloc]; omega) (fun k hk e => by omega)))); clear hbN hfN))
  replace HQ := Lib.hid (HQ.out.next HN_.out.2)
  clear HN_
  with_reducible refine (CW.out w8).mono ?_
  rintro e w9 ⟨rfl, hb1⟩
  replace HQ := Lib.hid (HQ.out.next hb1)
  clear hb1 CW
  have cv := CV.out
  have ad := AD.out
  go_wp2_with (first | (refine wpList_store_part rfl 41 _ _ rfl _ 0 _ rfl rfl 41 _ (Blk.new_at (by simp)) (by simp [rowA_size]) (by rw [rowA_size]; kernel_rfl) rowA_one ?_; intro w10 hbN hfN; rw [zero_reply, rowA_whole] at hbN; rw [zero_reply] at hfN; have HN_ := Lib.hid (And.intro hbN (Below.trans ((Below.refl w9.heap.size w9).alloc (Nat.le_refl _) _) (hfN.below (by rw [World.size_alloc]; omega) (fun k hk e => by omega)))); clear hbN hfN))
  replace HQ := Lib.hid (HQ.out.next HN_.out.2)
  clear HN_
  with_reducible refine (MR.out _).mono ?_
  rintro e w11 ⟨rfl, hb1⟩
  replace HQ := Lib.hid ((HQ.out.next ((Below.refl _ _).alloc (Nat.le_refl _) _)).next hb1)
  clear hb1
  go_wp2_with (first | (refine wpList_store_part rfl 32 _ _ rfl _ 0 _ rfl rfl 32 _ (Blk.new_at (by simp)) (by simp [rowA_size]) (by rw [rowA_size]; kernel_rfl) rowA_one ?_; intro w12 hbN hfN; rw [zero_cmd, rowA_whole] at hbN; rw [zero_cmd] at hfN; have HN_ := Lib.hid (And.intro hbN (Below.trans ((Below.refl w11.heap.size w11).alloc (Nat.le_refl _) _) (hfN.below (by rw [World.size_alloc]; omega) (fun k hk e => by omega)))); clear hbN hfN))
  replace HQ := Lib.hid (HQ.out.next HN_.out.2)
  clear HN_
  with_reducible refine (MW.out _).mono ?_
  rintro e w13 ⟨rfl, hb1⟩
  replace HQ := Lib.hid ((HQ.out.next ((Below.refl _ _).alloc (Nat.le_refl _) _)).next hb1)
  clear hb1
  go_wp2_with (first | (refine wpList_store_part rfl 41 _ _ rfl _ 0 _ rfl rfl 41 _ (Blk.new_at (by simp)) (by simp [rowA_size]) (by rw [rowA_size]; kernel_rfl) rowA_one ?_; intro w14 hbN hfN; rw [zero_reply, rowA_whole] at hbN; rw [zero_reply] at hfN; have HN_ := Lib.hid (And.intro hbN (Below.trans ((Below.refl w13.heap.size w13).alloc (Nat.le_refl _) _) (hfN.below (by rw [World.size_alloc]; omega) (fun k hk e => by omega)))); clear hbN hfN))
  go_ret
  exact ⟨by simp, (HQ.out.next HN_.out.2).below⟩

theorem cone_long (l : List Nat) (some more : Int) (w : World) (hl : 500 < l.length) :
    Calls Try.prog 5 #[.string (bs l), .int .i64 some, .int .u8 more] w fun e w' => e = .returned (.bool true) ∧ Below w.heap.size w w' := by
  have hsz : (bs l).size = l.length := bs_size l
  obtain ⟨n, hn⟩ : ∃ n, l.length = n := ⟨_, rfl⟩
  rw [hn] at hl hsz
  have HN := Lib.hid hn
  have d5 : decide ((500 : Int) < (n : Int)) = true := decide_eq_true (by omega)
  have d6 : decide (500 < n) = true := decide_eq_true (by omega)
  clear hn hl
  go_enter Try.func5, Try.ntmps5
  go_wp2_with fail
  with_reducible refine (cmdAwake w).mono ?_
  rintro e w1 ⟨rfl, hb1⟩
  have B1 := Lib.hid hb1
  clear hb1
  go_wp2_with fail
  go_ret
  exact ⟨by simp, B1.out⟩

theorem commandOne_walk (w : World) (s : ByteArray) (fs : s.size ≤ 9223372036854775807) (some : Int) (fsome : (Lit.int .i64 some).wf = true) (more : Int) (fmore : (Lit.int .u8 more).wf = true) :
    Calls Try.prog 5 #[.string s, .int .i64 some, .int .u8 more] w fun e w' => e = .returned (.bool true) ∧ Below w.heap.size w w' := by
  obtain ⟨x0, x1⟩ := wf_u8 fmore
  obtain ⟨l, hb, rfl, hl⟩ := bs_of s
  by_cases h5 : 500 < l.length
  · exact cone_long l some more w h5
  · have h5 : l.length ≤ 500 := by omega
    by_cases h1 : ∃ C k, Told l C k
    · obtain ⟨C, k, h1⟩ := h1
      exact cone_c l C k some more w hb h5 x0 x1 h1
    · by_cases h2 : ∃ C, RTold l C
      · obtain ⟨C, h2⟩ := h2
        exact cone_r l C 0 some more w hb h5 x0 x1 h2
      · exact cone_n l (fun _ => 0) 0 some more w hb h5 x0 x1 ⟨h1, h2⟩

end Go.Proofs.Ytbageagobalgbaa
