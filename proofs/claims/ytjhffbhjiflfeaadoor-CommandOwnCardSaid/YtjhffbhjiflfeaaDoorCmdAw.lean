/-
  The chapter's examples of commands as bytes, as the laws' awake asks them.
-/
import Derived.Test.YtjhffbhjiflfeaaDoorProg
import Derived.Test.YtjhffbhjiflfeaaDoorCmdU
import Derived.Test.YtjhffbhjiflfeaaDoorOctAwake
namespace Go.Proofs.YtjhffbhjiflfeaaDoor
set_option linter.unusedVariables false
set_option linter.unusedSimpArgs false
set_option maxRecDepth 100000
open Go.RowKit

theorem fits_small {c : Nat → Int} (h : ∀ i, i < 24 → 0 ≤ c i ∧ c i < 1000 ∧ (i = 0 → c i < 256) ∧ (i = 6 → c i = 0)) : Fits cmdT 24 c := fun i hi => by
  obtain ⟨h1, h2, h3, h4⟩ := h i hi
  unfold fitC
  by_cases h0 : i = 0
  · subst h0
    exact ⟨h1, h3 rfl⟩
  · by_cases h6 : i = 6
    · subst h6
      exact Or.inl (h4 rfl)
    · have e : cmdT i = 0 ∨ cmdT i = 1 := by
        unfold cmdT
        rw [if_neg h0, if_neg h6]
        split
        · exact Or.inr rfl
        · exact Or.inl rfl
      rcases e with e | e <;> rw [e, if_neg (by decide)]
      · exact ⟨h1, by omega⟩
      · exact ⟨by omega, by omega⟩
def cA : Nat → Int := fun i => if i = 0 then 6 else if i = 23 then 300 else 0
def cB : Nat → Int := fun i => if i = 0 then 7 else if i = 18 then 5 else 0
def cC : Nat → Int := fun i => if i = 0 then 7 else if i = 18 then 5 else if i = 23 then 1 else 0
theorem fitA : Fits cmdT 24 cA := fits_small fun i hi => by unfold cA; repeat' split <;> omega
theorem fitB : Fits cmdT 24 cB := fits_small fun i hi => by unfold cB; repeat' split <;> omega
theorem fitD : Fits cmdT 24 cC := fits_small fun i hi => by unfold cC; repeat' split <;> omega
theorem fitZ : Fits replyT 10 fun _ => 0 := fun i hi => by
  show fitC (replyT i) 0
  have e : replyT i = 2 ∨ replyT i = 0 := by
    unfold replyT
    split
    · exact Or.inl rfl
    · exact Or.inr rfl
  rcases e with e | e <;> rw [e]
  · exact ⟨by decide, by decide⟩
  · exact ⟨by decide, by decide⟩
theorem nb10 : numB 10 = [10] := numB_small (by decide)
theorem encA : encs cA (slotsOf 6) = [172, 2] := by
  show numB 300 ++ [] = _
  rw [nb300]; rfl
theorem encB : encs cB (slotsOf 7) = [10] := by
  show numB 10 ++ [] = _
  rw [nb10]; rfl
theorem encZ : encs (fun _ => 0) replySlots = [0, 0, 0, 0, 0, 0, 0, 0, 0, 0] := by
  show numB 0 ++ (numB 0 ++ (numB 0 ++ (numB 0 ++ (numB 0 ++ (numB 0 ++ (numB 0 ++ (numB 0 ++ (numB 0 ++ (numB 0 ++ []))))))))) = _
  rw [nb0]; rfl
theorem toldA : Told [6, 172, 2] cA 6 := ⟨by decide, by decide, rfl, fitA, by decide, by rw [encA]⟩
theorem exA (w : World) : Calls Tryd.prog 6 #[.agg #[.int .u8 6, .int .u64 0, .int .i64 0, .int .u64 0, .int .i64 0, .int .i64 0, .bool false, .int .u64 0, .int .u64 0, .int .u64 0, .int .u64 0, .int .u64 0, .int .u64 0, .int .u64 0, .int .u64 0, .int .u64 0, .int .i64 0, .int .i64 0, .int .i64 0, .int .u64 0, .int .i64 0, .int .i64 0, .int .u64 0, .int .u64 300]] w fun e w' => e = .returned (.tuple #[.string ⟨#[6, 172, 2]⟩, .int .i64 0]) ∧ Below w.heap.size w w' := by
  have h := cmd_command_ok cA 6 w rfl (by decide) (by decide) fitA (fits_own fitA) (by decide)
  rw [encA] at h
  exact h
theorem exB (w : World) : Calls Tryd.prog 6 #[.agg #[.int .u8 7, .int .u64 0, .int .i64 0, .int .u64 0, .int .i64 0, .int .i64 0, .bool false, .int .u64 0, .int .u64 0, .int .u64 0, .int .u64 0, .int .u64 0, .int .u64 0, .int .u64 0, .int .u64 0, .int .u64 0, .int .i64 0, .int .i64 0, .int .i64 5, .int .u64 0, .int .i64 0, .int .i64 0, .int .u64 0, .int .u64 0]] w fun e w' => e = .returned (.tuple #[.string ⟨#[7, 10]⟩, .int .i64 0]) ∧ Below w.heap.size w w' := by
  have h := cmd_command_ok cB 7 w rfl (by decide) (by decide) fitB (fits_own fitB) (by decide)
  rw [encB] at h
  exact h
theorem exC (w : World) : Calls Tryd.prog 6 #[.agg #[.int .u8 7, .int .u64 0, .int .i64 0, .int .u64 0, .int .i64 0, .int .i64 0, .bool false, .int .u64 0, .int .u64 0, .int .u64 0, .int .u64 0, .int .u64 0, .int .u64 0, .int .u64 0, .int .u64 0, .int .u64 0, .int .i64 0, .int .i64 0, .int .i64 5, .int .u64 0, .int .i64 0, .int .i64 0, .int .u64 0, .int .u64 1]] w fun e w' => e = .returned (.tuple #[.string ⟨#[]⟩, .int .i64 2]) ∧ Below w.heap.size w w' :=
  cmd_command_ne cC 7 w rfl (by decide) (by decide) fitD (fits_own fitD) (by decide)
theorem exR (w : World) : Calls Tryd.prog 9 #[.agg #[.int .i64 0, .int .u64 0, .int .u64 0, .int .u64 0, .int .u64 0, .int .u64 0, .int .u64 0, .int .u64 0, .int .u64 0, .int .u64 0]] w fun e w' => e = .returned (.tuple #[.string ⟨#[0, 0, 0, 0, 0, 0, 0, 0, 0, 0, 0]⟩, .int .i64 0]) ∧ Below w.heap.size w w' := by
  have h := cmd_reply (fun _ => 0) w fitZ
  rw [encZ] at h
  exact h
theorem exRead (w : World) : Calls Tryd.prog 10 #[.string ⟨#[6, 172, 2]⟩] w fun e w' => e = .returned (.tuple #[.agg (rowA cmdT 24 cA), .int .i64 0]) ∧ Below w.heap.size w w' := by
  have h := read_told w toldA
  have e : bs [6, 172, 2] = ⟨#[6, 172, 2]⟩ := rfl
  rw [e] at h
  exact h
theorem exReadR (w : World) : Calls Tryd.prog 11 #[.string ⟨#[6, 172, 2]⟩] w fun e w' => e = .returned (.tuple #[.agg (rowA replyT 10 fun _ => 0), .int .i64 140]) ∧ Below w.heap.size w w' :=
  rread_else (l := [6, 172, 2]) w (by decide) (by rintro ⟨C, h⟩; have := h.bytes; simp at this)
theorem eqA (w : World) : (Op.equalIn 10000 32 (.agg (rowA cmdT 24 cA)) (.agg #[.int .u8 6, .int .u64 0, .int .i64 0, .int .u64 0, .int .i64 0, .int .i64 0, .bool false, .int .u64 0, .int .u64 0, .int .u64 0, .int .u64 0, .int .u64 0, .int .u64 0, .int .u64 0, .int .u64 0, .int .u64 0, .int .i64 0, .int .i64 0, .int .i64 0, .int .u64 0, .int .i64 0, .int .i64 0, .int .u64 0, .int .u64 300])).run Tryd.prog w = .ok (true != false) w := eq_cmd cA cA fitA fitA w

set_option maxHeartbeats 16000000 in
theorem cmdAwake (w : World) : Calls Tryd.prog 4 #[] w fun e w' => e = .returned (.bool true) ∧ Below w.heap.size w w' := by
  go_enter Tryd.func4, Tryd.ntmps4
  go_wp2_with fail
  with_reducible refine (exA w).mono ?_
  rintro e w1 ⟨rfl, hb1⟩
  have B1 := Lib.hid hb1
  clear hb1
  go_wp2_with fail
  with_reducible refine (exB w1).mono ?_
  rintro e w2 ⟨rfl, hb2⟩
  have B2 := Lib.hid (below_next B1.out hb2)
  clear hb2 B1
  go_wp2_with fail
  with_reducible refine (exR w2).mono ?_
  rintro e w3 ⟨rfl, hb3⟩
  have B3 := Lib.hid (below_next B2.out hb3)
  clear hb3 B2
  go_wp2_with fail
  with_reducible refine (exRead w3).mono ?_
  rintro e w4 ⟨rfl, hb4⟩
  have B4 := Lib.hid (below_next B3.out hb4)
  clear hb4 B3
  go_wp2_with (first | (refine wpList_store_part rfl 32 _ _ rfl _ 0 _ rfl rfl 32 _ (Blk.new_at (by simp)) (by simp [rowA_size]) (by rw [rowA_size]; kernel_rfl) rowA_one ?_; intro w5 hb5 hf5; rw [zero_cmd, rowA_whole] at hb5; rw [zero_cmd] at hf5; have H5 := Lib.hid (And.intro hb5 (below_next B4.out (Below.trans ((Below.refl w4.heap.size w4).alloc (Nat.le_refl _) _) (hf5.below (by rw [World.size_alloc]; omega) (fun k hk e => by omega))))); clear hb5 hf5))
  obtain ⟨q, hq⟩ : ∃ q, w4.heap.size = q := ⟨_, rfl⟩
  rw [hq] at H5 ⊢
  clear hq B4
  with_reducible refine (exC w5).mono ?_
  rintro e w6 ⟨rfl, hb6⟩
  have H6 := Lib.hid (And.intro (H5.out.1.next hb6) (below_next H5.out.2 hb6))
  clear hb6 H5
  go_wp2_with fail
  with_reducible refine (exReadR w6).mono ?_
  rintro e w7 ⟨rfl, hb7⟩
  have H7 := Lib.hid (And.intro (H6.out.1.next hb7) (below_next H6.out.2 hb7))
  clear hb7 H6
  go_upto_region 7 with (first | (refine wpList_store_part rfl 47 _ _ rfl _ 0 _ rfl rfl 47 _ (Blk.new_at (by simp)) (by simp [rowA_size]) (by rw [rowA_size]; kernel_rfl) rowA_one ?_; intro w8 hb8 hf8; rw [zero_reply] at hf8; have H8 := Lib.hid (And.intro (((H7.out.1.alloc _).fr hf8 (by have := H7.out.1.lt; omega))) (below_next H7.out.2 (Below.trans ((Below.refl w7.heap.size w7).alloc (Nat.le_refl _) _) (hf8.below (by rw [World.size_alloc]; omega) (fun k hk e => by omega))))); clear hb8 hf8))
  have HE := Lib.hid eqA
  go_wp2_with (first | (refine wpList_load_blk rfl 32 _ rfl q rfl 32 _ _ H8.out.1 Tryd.underlying32 rfl (by rw [rowA_size]; kernel_rfl) ?_) | (refine wpList_cmp rfl false 32 _ _ _ rfl _ _ rfl rfl true (by kernel_rfl) (HE.out _) ?_))
  go_ret
  exact ⟨by simp, H8.out.2⟩

end Go.Proofs.YtjhffbhjiflfeaaDoor
