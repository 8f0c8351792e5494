/-
  Aug's trees: what is asked of them.
-/
import Derived.Test.YtjlnbpomncglcaaProg
import Derived.Test.YtjlnbpomncglcaaAugB
import Derived.Test.YtjlnbpomncglcaaRBHX
namespace Go.Proofs.Ytjlnbpomncglcaa
set_option linter.unusedVariables false
set_option linter.unusedSimpArgs false
set_option maxRecDepth 100000
open Go.RowKit Go.Shelf

attribute [local go_sem] Oper.semAt_some
set_option maxHeartbeats 4000000 in
theorem ag_len (U : Nat) (S : Nat → Prop) (L : Row) (w : World) (h : Aug w S U L) :
    Calls Try.prog 50 #[.pointer (some ⟨U, 0, none⟩)] w fun e w' => e = .returned (.int .i64 (L.length : Int)) ∧ Below w.heap.size w w' := by
  obtain ⟨T, m, t, M, hm⟩ := h
  have H := Lib.hid hm
  clear hm
  go_enter Try.func50, Try.ntmps50
  go_wp2_with fail
  with_reducible refine (ag_of _ U _ _ H.out.blk).mono ?_
  rintro e wx ⟨rfl, rfl⟩
  have Q := Lib.hid (rh_len T t w H.out.tree)
  rw [H.out.items] at Q
  go_wp2_with fail
  with_reducible refine (Q.out).mono ?_
  rintro e w1 ⟨rfl, hb⟩
  have HB := Lib.hid hb
  clear hb Q
  go_wp2
  go_ret
  exact ⟨by simp, HB.out⟩
set_option maxHeartbeats 4000000 in
theorem ag_first (U : Nat) (S : Nat → Prop) (L : Row) (w : World) (h : Aug w S U L) :
    Calls Try.prog 51 #[.pointer (some ⟨U, 0, none⟩)] w fun e w' => e = .returned (.tuple #[.int .i64 (firstK L).2, .bool (!L.isEmpty)]) ∧ Below w.heap.size w w' := by
  obtain ⟨T, m, t, M, hm⟩ := h
  have H := Lib.hid hm
  clear hm
  have Q := Lib.hid (rh_first _ t.items _ (overH T t) w H.out.tree)
  rw [H.out.items] at Q
  obtain ⟨z, hz⟩ : ∃ z, firstK L = z := ⟨_, rfl⟩
  rw [hz] at Q ⊢
  clear hz
  go_enter Try.func51, Try.ntmps51
  go_wp2_with fail
  with_reducible refine (ag_of _ U _ _ H.out.blk).mono ?_
  rintro e wx ⟨rfl, rfl⟩
  go_wp2_with fail
  with_reducible refine (Q.out).mono ?_
  rintro e w1 ⟨rfl, hb⟩
  have HB := Lib.hid hb
  clear hb Q
  go_wp2
  go_returns
  exact ⟨rfl, below_next HB.out (by go_grown)⟩
set_option maxHeartbeats 4000000 in
theorem ag_least (U : Nat) (S : Nat → Prop) (L : Row) (k : Int) (w : World) (h : Aug w S U L) :
    Calls Try.prog 45 #[.pointer (some ⟨U, 0, none⟩), .int .u64 k] w fun e w' => e = .returned (.tuple #[.int .i64 ((uptoH k L).getD (0, 0)).2, .bool (uptoH k L).isSome]) ∧ Below w.heap.size w w' := by
  obtain ⟨T, m, t, M, hm⟩ := h
  have H := Lib.hid hm
  clear hm
  have Q := Lib.hid (rh_upto T t k w H.out.tree)
  rw [H.out.items] at Q
  obtain ⟨z, hz⟩ : ∃ z, (uptoH k L).getD (0, 0) = z := ⟨_, rfl⟩
  rw [hz] at Q ⊢
  clear hz
  go_enter Try.func45, Try.ntmps45
  go_wp2_with fail
  with_reducible refine (ag_of _ U _ _ H.out.blk).mono ?_
  rintro e wx ⟨rfl, rfl⟩
  go_wp2_with fail
  with_reducible refine (Q.out).mono ?_
  rintro e w1 ⟨rfl, hb⟩
  have HB := Lib.hid hb
  clear hb Q
  go_wp2
  go_returns
  exact ⟨rfl, below_next HB.out (by go_grown)⟩
theorem allH_items {t : RB (Int × Int)} {n : Nat} (h : RB.W ofH minH t n) : allH t = (sumFrom ofH minH none t.items).getD (0, 0) := by
  rw [RB.W.sum minH_assoc h]
  cases t <;> rfl
set_option maxHeartbeats 4000000 in
theorem ag_lowest (U : Nat) (S : Nat → Prop) (L : Row) (w : World) (h : Aug w S U L) :
    Calls Try.prog 49 #[.pointer (some ⟨U, 0, none⟩)] w fun e w' => e = .returned (.tuple #[.int .u64 ((sumFrom ofH minH none L).getD (0, 0)).1, .bool (!L.isEmpty)]) ∧ Below w.heap.size w w' := by
  obtain ⟨T, m, t, M, hm⟩ := h
  have H := Lib.hid hm
  clear hm
  have Q := Lib.hid (rh_all T t w H.out.tree)
  rw [show allH t = (sumFrom ofH minH none L).getD (0, 0) from by obtain ⟨n, hn⟩ := H.out.tree.well; rw [allH_items hn, H.out.items], H.out.items] at Q
  obtain ⟨z, hz⟩ : ∃ z, (sumFrom ofH minH none L).getD (0, 0) = z := ⟨_, rfl⟩
  rw [hz] at Q ⊢
  clear hz
  go_enter Try.func49, Try.ntmps49
  go_wp2_with fail
  with_reducible refine (ag_of _ U _ _ H.out.blk).mono ?_
  rintro e wx ⟨rfl, rfl⟩
  go_wp2_with fail
  with_reducible refine (Q.out).mono ?_
  rintro e w1 ⟨rfl, hb⟩
  have HB := Lib.hid hb
  clear hb Q
  go_wp2
  go_returns
  exact ⟨rfl, below_next HB.out (by go_grown)⟩
set_option maxHeartbeats 4000000 in
theorem ag_within (U : Nat) (S : Nat → Prop) (L : Row) (v : Int) (w : World) (h : Aug w S U L) :
    Calls Try.prog 46 #[.pointer (some ⟨U, 0, none⟩), .int .u64 v] w fun e w' => e = .returned (.tuple #[.int .i64 ((findTo v L).getD (0, 0)).2, .bool (findTo v L).isSome]) ∧ Below w.heap.size w w' := by
  obtain ⟨T, m, t, M, hm⟩ := h
  have H := Lib.hid hm
  clear hm
  obtain ⟨w0, hw0⟩ : ∃ x, w.alloc (.cells #[.int .u64 v] 23) = x := ⟨_, rfl⟩
  have hb0 : Below w.heap.size w w0 := by rw [← hw0]; go_grown
  have bv : Blk w0 w.heap.size 23 #[.int .u64 v] := by rw [← hw0]; exact Blk.new w _ _
  have H0 := Lib.hid (And.intro (H.out.next hb0) (And.intro hb0 bv))
  have HEQ := Lib.hid hw0
  clear hw0 hb0 bv
  have Q := Lib.hid (rh_find T t w.heap.size v w0 H0.out.1.tree H0.out.2.2)
  rw [H.out.items] at Q
  unfold FindR at Q
  obtain ⟨z, hz⟩ : ∃ z, (findTo v L).getD (0, 0) = z := ⟨_, rfl⟩
  rw [hz] at Q ⊢
  clear hz
  go_enter Try.func46, Try.ntmps46
  go_wp2_with fail
  rw [HEQ.out]
  with_reducible refine (ag_of w0 U _ _ H0.out.1.blk).mono ?_
  rintro e wx ⟨rfl, rfl⟩
  go_wp2_with fail
  with_reducible refine (Q.out).mono ?_
  rintro e w1 ⟨rfl, hb⟩
  have HB := Lib.hid (below_next H0.out.2.1 hb)
  clear hb Q
  go_wp2
  go_returns
  exact ⟨rfl, below_next HB.out (by go_grown)⟩

end Go.Proofs.Ytjlnbpomncglcaa
