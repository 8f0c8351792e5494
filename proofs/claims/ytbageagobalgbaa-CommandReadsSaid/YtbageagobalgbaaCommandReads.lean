/-
  The law CommandReads, walked.
-/
import Derived.Test.YtbageagobalgbaaProg
import Derived.Test.YtbageagobalgbaaCmdX
import Derived.Test.YtbageagobalgbaaCmdZ1
import Derived.Test.YtbageagobalgbaaCmdZ2
import Derived.Test.YtbageagobalgbaaCmdZ3
import Derived.Test.YtbageagobalgbaaCmdZR
namespace Go.Proofs.Ytbageagobalgbaa
set_option linter.unusedVariables false
set_option linter.unusedSimpArgs false
set_option maxRecDepth 100000
open Go.RowKit

theorem done_some {l : List Nat} {f : Bool} (h : doneB l f = true) : endE l f ≠ 140 := by
  unfold doneB at h
  rw [Bool.and_eq_true] at h
  have h1 : f = false := by simpa using h.1
  have h2 : l = [] := by simpa using h.2
  subst h1 h2
  decide
theorem refread_told {l : List Nat} {C : Nat → Int} {k : Nat} (w : World) (h : Told l C k) :
    Calls Try.prog 8 #[.string (bs l)] w fun e w' => e = .returned (.tuple #[.agg (rowA cmdT 24 C), .int .i64 0]) ∧ Below w.heap.size w w' := by
  obtain ⟨b1, b2⟩ := h.back
  have hl := Nat.le_trans h.len (show 201 ≤ 500 by decide)
  have k0 := h.k0
  have k1 := h.k1
  have hb := h.isBytes
  have hk : k = 1 ∨ k = 2 ∨ k = 3 ∨ k = 4 ∨ k = 5 ∨ k = 6 ∨ k = 7 := by omega
  rcases hk with rfl | rfl | rfl | rfl | rfl | rfl | rfl
  · exact ref_read_1_ok l w _ hb hl b1 b2 rfl
  · exact ref_read_2_ok l w _ hb hl b1 b2 rfl
  · exact ref_read_3_ok l w _ hb hl b1 b2 rfl
  · exact ref_read_4_ok l w _ hb hl b1 b2 rfl
  · exact ref_read_5_ok l w _ hb hl b1 b2 rfl
  · exact ref_read_6_ok l w _ hb hl b1 b2 rfl
  · exact ref_read_7_ok l w _ hb hl b1 b2 rfl
theorem refread_else {l : List Nat} (w : World) (hb : Bytes l) (hl : l.length ≤ 500) (h : ¬ ∃ C k, Told l C k) :
    Calls Try.prog 8 #[.string (bs l)] w fun e w' => e = .returned (.tuple #[.agg (rowA cmdT 24 fun _ => 0), .int .i64 140]) ∧ Below w.heap.size w w' := by
  by_cases hk : 1 ≤ byteR l ∧ byteR l ≤ 7
  · obtain ⟨k, hkk⟩ : ∃ k, byteR l = k := ⟨_, rfl⟩
    rw [hkk] at hk
    have hd : doneB (reads (slotsOf k) (rowA cmdT 24 fun i => if i = 0 then (k : Int) else 0) (byteL l) (byteF l false)).2.1 (reads (slotsOf k) (rowA cmdT 24 fun i => if i = 0 then (k : Int) else 0) (byteL l) (byteF l false)).2.2 = false := by
      refine Bool.eq_false_iff.2 fun hd => h ?_
      obtain ⟨C, hC⟩ := told_of_read hb hkk hk.1 hk.2 (done_some hd)
      exact ⟨C, _, hC⟩
    have hk7 : k = 1 ∨ k = 2 ∨ k = 3 ∨ k = 4 ∨ k = 5 ∨ k = 6 ∨ k = 7 := by omega
    rcases hk7 with rfl | rfl | rfl | rfl | rfl | rfl | rfl
    · exact ref_read_1_end l w _ hb hl hkk rfl hd
    · exact ref_read_2_end l w _ hb hl hkk rfl hd
    · exact ref_read_3_end l w _ hb hl hkk rfl hd
    · exact ref_read_4_end l w _ hb hl hkk rfl hd
    · exact ref_read_5_end l w _ hb hl hkk rfl hd
    · exact ref_read_6_end l w _ hb hl hkk rfl hd
    · exact ref_read_7_end l w _ hb hl hkk rfl hd
  · exact ref_read_no l w hb hl (by omega)
theorem refrread_told {l : List Nat} {C : Nat → Int} (w : World) (h : RTold l C) :
    Calls Try.prog 10 #[.string (bs l)] w fun e w' => e = .returned (.tuple #[.agg (rowA replyT 10 C), .int .i64 0]) ∧ Below w.heap.size w w' := by
  obtain ⟨b1, b2⟩ := h.back
  exact ref_rep_ok l w _ h.isBytes (Nat.le_trans h.len.1 (by decide)) b2 b1 rfl
theorem refrread_else {l : List Nat} (w : World) (hb : Bytes l) (hl : l.length ≤ 500) (h : ¬ ∃ C, RTold l C) :
    Calls Try.prog 10 #[.string (bs l)] w fun e w' => e = .returned (.tuple #[.agg (rowA replyT 10 fun _ => 0), .int .i64 140]) ∧ Below w.heap.size w w' := by
  by_cases hk : byteR l = 0
  · refine ref_rep_end l w _ hb hl rfl hk ?_
    exact Bool.eq_false_iff.2 fun hd => h (rtold_of_read hb hk (done_some hd))
  · exact ref_rep_bad l w _ hb hl rfl hk

set_option maxHeartbeats 16000000 in
theorem creads_core (S : ByteArray) (c d : Nat → Int) (E G : Int) (w : World) (hs : S.size ≤ 500) (hc : Fits cmdT 24 c) (hd : Fits replyT 10 d)
    (h1 : ∀ w, Calls Try.prog 7 #[.string S] w fun e w' => e = .returned (.tuple #[.agg (rowA cmdT 24 c), .int .i64 E]) ∧ Below w.heap.size w w')
    (h2 : ∀ w, Calls Try.prog 8 #[.string S] w fun e w' => e = .returned (.tuple #[.agg (rowA cmdT 24 c), .int .i64 E]) ∧ Below w.heap.size w w')
    (h3 : ∀ w, Calls Try.prog 9 #[.string S] w fun e w' => e = .returned (.tuple #[.agg (rowA replyT 10 d), .int .i64 G]) ∧ Below w.heap.size w w')
    (h4 : ∀ w, Calls Try.prog 10 #[.string S] w fun e w' => e = .returned (.tuple #[.agg (rowA replyT 10 d), .int .i64 G]) ∧ Below w.heap.size w w') :
    Calls Try.prog 3 #[.string S] w fun e w' => e = .returned (.bool true) ∧ Below w.heap.size w w' := by
  have H1 := Lib.hid h1
  have H2 := Lib.hid h2
  have H3 := Lib.hid h3
  have H4 := Lib.hid h4
  have HEC := Lib.hid (fun w => eq_cmd c c hc hc w)
  have hcc : eqB 24 c c = (true != false) := eqB_iff.2 fun _ _ => rfl
  rw [hcc] at HEC
  have HER := Lib.hid (fun w => eq_reply d d w)
  have hrr : eqB 10 d d = (true != false) := eqB_iff.2 fun _ _ => rfl
  rw [hrr] at HER
  have d5 : decide ((500 : Int) < (S.size : Int)) = false := decide_eq_false (by omega)
  have d6 : decide (500 < S.size) = false := decide_eq_false (by omega)
  clear hcc hrr h1 h2 h3 h4 hc hd hs
  obtain ⟨b, hbb⟩ : ∃ b, w.heap.size = b := ⟨_, rfl⟩
  rw [hbb]
  have BB : Hid (Below b w w ∧ b ≤ w.heap.size) := ⟨by rw [← hbb]; exact Below.refl _ _, Nat.le_of_eq hbb.symm⟩
  clear hbb
  go_enter Try.func3, Try.ntmps3
  go_wp2_with fail
  with_reducible refine (H1.out w).mono ?_
  rintro e w1 ⟨rfl, hb1⟩
  replace BB := Lib.hid (And.intro (BB.out.1.trans (hb1.mono BB.out.2)) (Nat.le_trans BB.out.2 hb1.size))
  clear hb1 H1
  go_upto_region 4 with (first | (refine wpList_store_part rfl 32 _ _ rfl _ 0 _ rfl rfl 32 _ (Blk.new_at (by simp)) (by simp [rowA_size]) (by rw [rowA_size]; kernel_rfl) rowA_one ?_; intro w2 hbN hfN; rw [zero_cmd, rowA_whole] at hbN; rw [zero_cmd] at hfN; have HN := Lib.hid (And.intro hbN (Below.trans ((Below.refl w1.heap.size w1).alloc (Nat.le_refl _) _) (hfN.below (by rw [World.size_alloc]; omega) (fun k hk e => by omega)))); clear hbN hfN))
  obtain ⟨q1, hq⟩ : ∃ q, w1.heap.size = q := ⟨_, rfl⟩
  replace BB := Lib.hid (And.intro (BB.out.1.trans (HN.out.2.mono BB.out.2)) (Nat.le_trans BB.out.2 HN.out.2.size))
  rw [hq] at HN ⊢
  have HX1 : Hid (Blk w2 q1 32 (rowA cmdT 24 c)) := HN.out.1
  clear hq HN
  go_wp2_with fail
  with_reducible refine (H2.out w2).mono ?_
  rintro e w3 ⟨rfl, hb1⟩
  replace BB := Lib.hid (And.intro (BB.out.1.trans (hb1.mono BB.out.2)) (Nat.le_trans BB.out.2 hb1.size))
  replace HX1 := Lib.hid (HX1.out.next hb1)
  clear hb1 H2
  go_upto_region 5 with (first | (refine wpList_store_part rfl 32 _ _ rfl _ 0 _ rfl rfl 32 _ (Blk.new_at (by simp)) (by simp [rowA_size]) (by rw [rowA_size]; kernel_rfl) rowA_one ?_; intro w4 hbN hfN; rw [zero_cmd, rowA_whole] at hbN; rw [zero_cmd] at hfN; have HN := Lib.hid (And.intro hbN (Below.trans ((Below.refl w3.heap.size w3).alloc (Nat.le_refl _) _) (hfN.below (by rw [World.size_alloc]; omega) (fun k hk e => by omega)))); clear hbN hfN))
  obtain ⟨q2, hq⟩ : ∃ q, w3.heap.size = q := ⟨_, rfl⟩
  replace BB := Lib.hid (And.intro (BB.out.1.trans (HN.out.2.mono BB.out.2)) (Nat.le_trans BB.out.2 HN.out.2.size))
  replace HX1 := Lib.hid (HX1.out.next HN.out.2)
  rw [hq] at HN ⊢
  have HX2 : Hid (Blk w4 q2 32 (rowA cmdT 24 c)) := HN.out.1
  clear hq HN
  go_wp2_with fail
  with_reducible refine (H3.out w4).mono ?_
  rintro e w5 ⟨rfl, hb1⟩
  replace BB := Lib.hid (And.intro (BB.out.1.trans (hb1.mono BB.out.2)) (Nat.le_trans BB.out.2 hb1.size))
  replace HX1 := Lib.hid (HX1.out.next hb1)
  replace HX2 := Lib.hid (HX2.out.next hb1)
  clear hb1 H3
  go_upto_region 6 with (first | (refine wpList_store_part rfl 41 _ _ rfl _ 0 _ rfl rfl 41 _ (Blk.new_at (by simp)) (by simp [rowA_size]) (by rw [rowA_size]; kernel_rfl) rowA_one ?_; intro w6 hbN hfN; rw [zero_reply, rowA_whole] at hbN; rw [zero_reply] at hfN; have HN := Lib.hid (And.intro hbN (Below.trans ((Below.refl w5.heap.size w5).alloc (Nat.le_refl _) _) (hfN.below (by rw [World.size_alloc]; omega) (fun k hk e => by omega)))); clear hbN hfN))
  obtain ⟨q3, hq⟩ : ∃ q, w5.heap.size = q := ⟨_, rfl⟩
  replace BB := Lib.hid (And.intro (BB.out.1.trans (HN.out.2.mono BB.out.2)) (Nat.le_trans BB.out.2 HN.out.2.size))
  replace HX1 := Lib.hid (HX1.out.next HN.out.2)
  replace HX2 := Lib.hid (HX2.out.next HN.out.2)
  rw [hq] at HN ⊢
  have HX3 : Hid (Blk w6 q3 41 (rowA replyT 10 d)) := HN.out.1
  clear hq HN
  go_wp2_with fail
  with_reducible refine (H4.out w6).mono ?_
  rintro e w7 ⟨rfl, hb1⟩
  replace BB := Lib.hid (And.intro (BB.out.1.trans (hb1.mono BB.out.2)) (Nat.le_trans BB.out.2 hb1.size))
  replace HX1 := Lib.hid (HX1.out.next hb1)
  replace HX2 := Lib.hid (HX2.out.next hb1)
  replace HX3 := Lib.hid (HX3.out.next hb1)
  clear hb1 H4
  go_upto_region 7 with (first | (refine wpList_store_part rfl 41 _ _ rfl _ 0 _ rfl rfl 41 _ (Blk.new_at (by simp)) (by simp [rowA_size]) (by rw [rowA_size]; kernel_rfl) rowA_one ?_; intro w8 hbN hfN; rw [zero_reply, rowA_whole] at hbN; rw [zero_reply] at hfN; have HN := Lib.hid (And.intro hbN (Below.trans ((Below.refl w7.heap.size w7).alloc (Nat.le_refl _) _) (hfN.below (by rw [World.size_alloc]; omega) (fun k hk e => by omega)))); clear hbN hfN))
  obtain ⟨q4, hq⟩ : ∃ q, w7.heap.size = q := ⟨_, rfl⟩
  replace BB := Lib.hid (And.intro (BB.out.1.trans (HN.out.2.mono BB.out.2)) (Nat.le_trans BB.out.2 HN.out.2.size))
  replace HX1 := Lib.hid (HX1.out.next HN.out.2)
  replace HX2 := Lib.hid (HX2.out.next HN.out.2)
  replace HX3 := Lib.hid (HX3.out.next HN.out.2)
  rw [hq] at HN ⊢
  have HX4 : Hid (Blk w8 q4 41 (rowA replyT 10 d)) := HN.out.1
  clear hq HN
  go_wp2_with (first | (refine wpList_load_blk rfl 32 _ rfl q1 rfl 32 _ _ (HX1.out) Try.underlying32 rfl (by rw [rowA_size]; kernel_rfl) ?_) | (refine wpList_load_blk rfl 32 _ rfl q2 rfl 32 _ _ (HX2.out) Try.underlying32 rfl (by rw [rowA_size]; kernel_rfl) ?_) | (refine wpList_load_blk rfl 41 _ rfl q3 rfl 41 _ _ (HX3.out) Try.underlying41 rfl (by rw [rowA_size]; kernel_rfl) ?_) | (refine wpList_load_blk rfl 41 _ rfl q4 rfl 41 _ _ (HX4.out) Try.underlying41 rfl (by rw [rowA_size]; kernel_rfl) ?_) | (refine wpList_cmp rfl false 32 _ _ _ rfl _ _ rfl rfl true (by kernel_rfl) (HEC.out _) ?_) | (refine wpList_cmp rfl false 41 _ _ _ rfl _ _ rfl rfl true (by kernel_rfl) (HER.out _) ?_))
  go_ret
  exact ⟨by simp, BB.out.1⟩
theorem creads_long (S : ByteArray) (w : World) (hs : 500 < S.size) :
    Calls Try.prog 3 #[.string S] w fun e w' => e = .returned (.bool true) ∧ Below w.heap.size w w' := by
  have d5 : decide ((500 : Int) < (S.size : Int)) = true := decide_eq_true (by omega)
  have d6 : decide (500 < S.size) = true := decide_eq_true hs
  clear hs
  go_enter Try.func3, Try.ntmps3
  go_wp2_with fail
  go_ret
  exact ⟨by simp, Below.refl _ _⟩
theorem fits_zc : Fits cmdT 24 fun _ => 0 := by
  intro i hi
  show fitC (cmdT i) 0
  unfold fitC
  split
  · omega
  · obtain h | h | h | h := kinds (cmdT i)
    · rw [h]; exact ⟨by decide, by decide⟩
    · rw [h]; exact ⟨by decide, by decide⟩
    · rw [h]; exact ⟨by decide, by decide⟩
    · obtain ⟨t, ht⟩ : ∃ t, cmdT i = t + 3 := ⟨cmdT i - 3, by omega⟩
      rw [ht]; exact Or.inl rfl
theorem fits_zr : Fits replyT 10 fun _ => 0 := by
  intro i hi
  show fitC (replyT i) 0
  unfold fitC
  split
  · omega
  · obtain h | h | h | h := kinds (replyT i)
    · rw [h]; exact ⟨by decide, by decide⟩
    · rw [h]; exact ⟨by decide, by decide⟩
    · rw [h]; exact ⟨by decide, by decide⟩
    · obtain ⟨t, ht⟩ : ∃ t, replyT i = t + 3 := ⟨replyT i - 3, by omega⟩
      rw [ht]; exact Or.inl rfl
theorem commandReads_walk (w : World) (s : ByteArray) (fs : s.size ≤ 9223372036854775807) :
    Calls Try.prog 3 #[.string s] w fun e w' => e = .returned (.bool true) ∧ Below w.heap.size w w' := by
  by_cases h5 : 500 < s.size
  · exact creads_long s w h5
  · obtain ⟨l, hb, rfl, hl⟩ := bs_of s
    have h6 : (bs l).size ≤ 500 := by omega
    have h7 : l.length ≤ 500 := by rw [bs_size] at h6; exact h6
    by_cases h1 : ∃ C k, Told l C k
    · obtain ⟨C, k, h1⟩ := h1
      by_cases h2 : ∃ C, RTold l C
      · obtain ⟨D, h2⟩ := h2
        exact creads_core _ C D 0 0 w h6 h1.fits h2.fits (fun w => read_told w h1) (fun w => refread_told w h1) (fun w => rread_told w h2) (fun w => refrread_told w h2)
      · exact creads_core _ C _ 0 140 w h6 h1.fits fits_zr (fun w => read_told w h1) (fun w => refread_told w h1) (fun w => rread_else w hb h2) (fun w => refrread_else w hb h7 h2)
    · by_cases h2 : ∃ C, RTold l C
      · obtain ⟨D, h2⟩ := h2
        exact creads_core _ _ D 140 0 w h6 fits_zc h2.fits (fun w => read_else w hb h1) (fun w => refread_else w hb h7 h1) (fun w => rread_told w h2) (fun w => refrread_told w h2)
      · exact creads_core _ _ _ 140 140 w h6 fits_zc fits_zr (fun w => read_else w hb h1) (fun w => refread_else w hb h7 h1) (fun w => rread_else w hb h2) (fun w => refrread_else w hb h7 h2)

end Go.Proofs.Ytbageagobalgbaa
