/-
  Where what a command has is: what is added, what is changed.
-/
import Derived.Test.YtjhffbhjiflfeaaDoorProg
import Derived.Test.YtjhffbhjiflfeaaDoorCmdF
namespace Go.Proofs.YtjhffbhjiflfeaaDoor
set_option linter.unusedVariables false
set_option linter.unusedSimpArgs false
set_option maxRecDepth 100000
open Go.RowKit

set_option maxHeartbeats 8000000 in
theorem cmd_parts_change (q : Nat) (w : World) (hk : w.cell? ⟨q, 0, none⟩ = some (.int .u8 3)) :
    Calls Tryd.prog 15 #[.pointer (some ⟨q, 0, none⟩)] w fun e w' => ∃ v, e = .returned v ∧ w'.ownsRow w.heap.size 20 1 v 10 [intAt q 4, wordAt q 7, wordAt q 8, wordAt q 9, wordAt q 10, wordAt q 11, wordAt q 12, wordAt q 13, wordAt q 14, wordAt q 15] ∧ Below w.heap.size w w' := by
  obtain ⟨B, hB⟩ : ∃ B, w.heap.size = B := ⟨_, rfl⟩
  rw [hB]
  have HB := Lib.hid hB
  clear hB
  go_enter Tryd.func15, Tryd.ntmps15
  go_upto_region 8 with (first | go_quiet (fail))
  generalize hW0 : w.drewN _ = W0
  have hsz : W0.heap.size = B := by rw [← hW0, ← HB.out]; rfl
  have hb0 : Below B w W0 := by rw [← hW0]; exact below_of_drewN _ _ _
  have HB0 := Lib.hid (And.intro hsz hb0)
  clear hW0 hb0 hsz hk
  have KE : Hid (∀ w', Below (W0.heap.size) W0 w' → (True) ∧ Below (W0.heap.size) W0 w') := fun w' hb => ⟨trivial, hb⟩
  refine wp_region_noPanic ?_
  refine wp_region_held_drew (S := fun w' => (True) ∧ Below (W0.heap.size) W0 w') (by kernel_rfl) (KE.out _ (below_of_drew ((Below.refl W0.heap.size W0)))) (fun hH => ?_)
  have hbR := below_of_drew ((Below.refl W0.heap.size W0))
  first | (refine wpAnyH_take (i := 0) (v := undef) rfl ?_ ?_ ?_ (fun _ _ _ h => h) ?_ ?_ ?_; kernel_rfl; kernel_rfl; kernel_rfl; exact Or.inr ⟨by rfl, rfl⟩; exact hH) | (refine wpAnyH_take (i := 0) (v := ?_) rfl ?_ ?_ ?_ (fun _ _ _ h => h) ?_ ?_ ?_; rotate_left; kernel_rfl; kernel_rfl; kernel_rfl; (focus (refine Or.inl ⟨by rfl, ?_⟩; intro w' hSw; (try dsimp only at hSw); go_simp)); exact hH) | (refine wpAnyH_take (i := 0) (v := ?_) rfl ?_ ?_ ?_ (fun _ _ _ h => h) ?_ ?_ ?_; rotate_left; kernel_rfl; kernel_rfl; kernel_rfl; (focus (refine Or.inl ⟨by rfl, ?_⟩; intro w' hSw; (try dsimp only at hSw); go_simp; with_reducible rfl)); exact hH)
  try simp only [Act.put, List.getElem_toArray, List.getElem_cons_succ, List.getElem_cons_zero, List.setIfInBounds_toArray, List.set_cons_zero, List.set_cons_succ]
  first | (refine wpAnyH_take (i := 1) (v := undef) rfl ?_ ?_ ?_ (fun _ _ _ h => h) ?_ ?_ ?_; kernel_rfl; kernel_rfl; kernel_rfl; exact Or.inr ⟨by rfl, rfl⟩; exact hH) | (refine wpAnyH_take (i := 1) (v := ?_) rfl ?_ ?_ ?_ (fun _ _ _ h => h) ?_ ?_ ?_; rotate_left; kernel_rfl; kernel_rfl; kernel_rfl; (focus (refine Or.inl ⟨by rfl, ?_⟩; intro w' hSw; (try dsimp only at hSw); go_simp)); exact hH) | (refine wpAnyH_take (i := 1) (v := ?_) rfl ?_ ?_ ?_ (fun _ _ _ h => h) ?_ ?_ ?_; rotate_left; kernel_rfl; kernel_rfl; kernel_rfl; (focus (refine Or.inl ⟨by rfl, ?_⟩; intro w' hSw; (try dsimp only at hSw); go_simp; with_reducible rfl)); exact hH)
  try simp only [Act.put, List.getElem_toArray, List.getElem_cons_succ, List.getElem_cons_zero, List.setIfInBounds_toArray, List.set_cons_zero, List.set_cons_succ]
  first | (refine wpAnyH_take (i := 2) (v := undef) rfl ?_ ?_ ?_ (fun _ _ _ h => h) ?_ ?_ ?_; kernel_rfl; kernel_rfl; kernel_rfl; exact Or.inr ⟨by rfl, rfl⟩; exact hH) | (refine wpAnyH_take (i := 2) (v := ?_) rfl ?_ ?_ ?_ (fun _ _ _ h => h) ?_ ?_ ?_; rotate_left; kernel_rfl; kernel_rfl; kernel_rfl; (focus (refine Or.inl ⟨by rfl, ?_⟩; intro w' hSw; (try dsimp only at hSw); go_simp)); exact hH) | (refine wpAnyH_take (i := 2) (v := ?_) rfl ?_ ?_ ?_ (fun _ _ _ h => h) ?_ ?_ ?_; rotate_left; kernel_rfl; kernel_rfl; kernel_rfl; (focus (refine Or.inl ⟨by rfl, ?_⟩; intro w' hSw; (try dsimp only at hSw); go_simp; with_reducible rfl)); exact hH)
  try simp only [Act.put, List.getElem_toArray, List.getElem_cons_succ, List.getElem_cons_zero, List.setIfInBounds_toArray, List.set_cons_zero, List.set_cons_succ]
  first | (refine wpAnyH_take (i := 3) (v := undef) rfl ?_ ?_ ?_ (fun _ _ _ h => h) ?_ ?_ ?_; kernel_rfl; kernel_rfl; kernel_rfl; exact Or.inr ⟨by rfl, rfl⟩; exact hH) | (refine wpAnyH_take (i := 3) (v := ?_) rfl ?_ ?_ ?_ (fun _ _ _ h => h) ?_ ?_ ?_; rotate_left; kernel_rfl; kernel_rfl; kernel_rfl; (focus (refine Or.inl ⟨by rfl, ?_⟩; intro w' hSw; (try dsimp only at hSw); go_simp)); exact hH) | (refine wpAnyH_take (i := 3) (v := ?_) rfl ?_ ?_ ?_ (fun _ _ _ h => h) ?_ ?_ ?_; rotate_left; kernel_rfl; kernel_rfl; kernel_rfl; (focus (refine Or.inl ⟨by rfl, ?_⟩; intro w' hSw; (try dsimp only at hSw); go_simp; with_reducible rfl)); exact hH)
  try simp only [Act.put, List.getElem_toArray, List.getElem_cons_succ, List.getElem_cons_zero, List.setIfInBounds_toArray, List.set_cons_zero, List.set_cons_succ]
  first | (refine wpAnyH_take (i := 5) (v := undef) rfl ?_ ?_ ?_ (fun _ _ _ h => h) ?_ ?_ ?_; kernel_rfl; kernel_rfl; kernel_rfl; exact Or.inr ⟨by rfl, rfl⟩; exact hH) | (refine wpAnyH_take (i := 5) (v := ?_) rfl ?_ ?_ ?_ (fun _ _ _ h => h) ?_ ?_ ?_; rotate_left; kernel_rfl; kernel_rfl; kernel_rfl; (focus (refine Or.inl ⟨by rfl, ?_⟩; intro w' hSw; (try dsimp only at hSw); go_simp)); exact hH) | (refine wpAnyH_take (i := 5) (v := ?_) rfl ?_ ?_ ?_ (fun _ _ _ h => h) ?_ ?_ ?_; rotate_left; kernel_rfl; kernel_rfl; kernel_rfl; (focus (refine Or.inl ⟨by rfl, ?_⟩; intro w' hSw; (try dsimp only at hSw); go_simp; with_reducible rfl)); exact hH)
  try simp only [Act.put, List.getElem_toArray, List.getElem_cons_succ, List.getElem_cons_zero, List.setIfInBounds_toArray, List.set_cons_zero, List.set_cons_succ]
  refine wpAnyH_ready (rs := [4, 6]) (by kernel_rfl) (by simp) ?_
  refine (AllReadyH.cons rfl (fun K hK => ?_) (AllReadyH.cons rfl (fun K hK => ?_) AllReadyH.nil))
  · skip
    go_simp
    have Sb1 : Blk (W0.drew.alloc (.cells #[.iface 76 (.pointer (some ⟨q, 4, none⟩))] 20)) (W0.heap.size) 20 #[.iface 76 (.pointer (some ⟨q, 4, none⟩))] := Blk.new_at (by simp)
    have QGS : W0.heap.size ≤ W0.heap.size := Nat.le_trans (Below.size (hbR)) (Nat.le_of_eq (by simp))
    have hb1 := Below.alloc (hbR) (Below.size (hbR)) (.cells #[.iface 76 (.pointer (some ⟨q, 4, none⟩))] 20)
    refine hK.out _ _ (KE.out _ hb1) (fun hH1 => ?_)
    clear hK K hH
    have hH := hH1
    clear hH1
    try simp only [Act.put, List.getElem_toArray, List.getElem_cons_succ, List.getElem_cons_zero, List.setIfInBounds_toArray, List.set_cons_zero, List.set_cons_succ]
    refine wpAnyH_ready (rs := [6]) (by kernel_rfl) (by simp) ?_
    refine (AllReadyH.cons rfl (fun K hK => ?_) AllReadyH.nil)
    go_simp
    with_reducible refine (cmd_curves q 4 _).mono ?_
    rintro e w2 ⟨v2, rfl, hO2, hc2⟩
    obtain ⟨bp, cp, rfl, hBp, hPp⟩ := PieceAt.own hO2 (by omega) (by simp [wordAt, Value.oneCell'])
    have hb2 := below_next (hb1) hc2
    try go_wp2_with fail
    have Sb2 := Blk.next (Sb1) hc2
    have Ph2 := hPp
    refine hK.out _ _ (KE.out _ hb2) (fun hH2 => ?_)
    clear hK K hH
    have hH := hH2
    clear hH2
    try simp only [Act.put, List.getElem_toArray, List.getElem_cons_succ, List.getElem_cons_zero, List.setIfInBounds_toArray, List.set_cons_zero, List.set_cons_succ]
    refine wpAnyH_ready (rs := [7]) (by kernel_rfl) (by simp) ?_
    refine (AllReadyH.cons rfl (fun K hK => ?_) AllReadyH.nil)
    go_simp
    have Ph3 := (Ph2).next ((Below.refl (w2).heap.size (w2)).alloc (Nat.le_refl _) (.cells #[.slice (some ⟨(W0.heap.size), 0, none⟩) 1 1, .slice (some ⟨bp, 0, none⟩) 9 cp] 55))
    have NESR3 : W0.heap.size ≠ w2.heap.size := Nat.ne_of_lt (Nat.lt_of_lt_of_eq (Blk.lt Sb2) (by simp))
    have Sb3 := Blk.alloc Sb2 (.cells #[.slice (some ⟨(W0.heap.size), 0, none⟩) 1 1, .slice (some ⟨bp, 0, none⟩) 9 cp] 55)
    have Rb3 : Blk (w2.alloc (.cells #[.slice (some ⟨(W0.heap.size), 0, none⟩) 1 1, .slice (some ⟨bp, 0, none⟩) 9 cp] 55)) (w2.heap.size) 55 #[.slice (some ⟨(W0.heap.size), 0, none⟩) 1 1, .slice (some ⟨bp, 0, none⟩) 9 cp] := Blk.new_at (by simp)
    have QGR : W0.heap.size ≤ w2.heap.size := Nat.le_trans (Below.size (hb2)) (Nat.le_of_eq (by simp))
    have hb3 := Below.alloc (hb2) (Below.size (hb2)) (.cells #[.slice (some ⟨(W0.heap.size), 0, none⟩) 1 1, .slice (some ⟨bp, 0, none⟩) 9 cp] 55)
    refine hK.out _ _ (KE.out _ hb3) (fun hH3 => ?_)
    clear hK K hH
    have hH := hH3
    clear hH3
    try simp only [Act.put, List.getElem_toArray, List.getElem_cons_succ, List.getElem_cons_zero, List.setIfInBounds_toArray, List.set_cons_zero, List.set_cons_succ]
    refine wpAnyH_ready (rs := [8]) (by kernel_rfl) (by simp) ?_
    refine (AllReadyH.cons rfl (fun K hK => ?_) AllReadyH.nil)
    go_simp
    with_reducible refine (cmd_concat2 _ 2 _ _ 1 cp [intAt q 4] [wordAt q (4 + 3), wordAt q (4 + 4), wordAt q (4 + 5), wordAt q (4 + 6), wordAt q (4 + 7), wordAt q (4 + 8), wordAt q (4 + 9), wordAt q (4 + 10), wordAt q (4 + 11)] _ (Rb3).lt ((Rb3).get 0 rfl) ((Rb3).get 1 rfl) (PieceAt.blk (Sb3) rfl (by simp [wordAt, intAt, flagAt, Value.oneCell'])) (Ph3) (by simp) (by simp)).mono ?_
    rintro e w4 ⟨v4, rfl, hO, hc4⟩
    have hO2 := own_less hO (Below.size (hb3))
    have hb4 := below_next (hb3) hc4
    try go_wp2_with fail
    refine hK.out _ _ (KE.out _ hb4) (fun hH4 => ?_)
    clear hK K hH
    have hH := hH4
    clear hH4
    try simp only [Act.put, List.getElem_toArray, List.getElem_cons_succ, List.getElem_cons_zero, List.setIfInBounds_toArray, List.set_cons_zero, List.set_cons_succ]
    first | (refine wpAnyH_take (i := 9) (v := undef) rfl ?_ ?_ ?_ (fun _ _ _ h => h) ?_ ?_ ?_; kernel_rfl; kernel_rfl; kernel_rfl; exact Or.inr ⟨by rfl, rfl⟩; exact hH) | (refine wpAnyH_take (i := 9) (v := ?_) rfl ?_ ?_ ?_ (fun _ _ _ h => h) ?_ ?_ ?_; rotate_left; kernel_rfl; kernel_rfl; kernel_rfl; (focus (refine Or.inl ⟨by rfl, ?_⟩; intro w' hSw; (try dsimp only at hSw); go_simp)); exact hH) | (refine wpAnyH_take (i := 9) (v := ?_) rfl ?_ ?_ ?_ (fun _ _ _ h => h) ?_ ?_ ?_; rotate_left; kernel_rfl; kernel_rfl; kernel_rfl; (focus (refine Or.inl ⟨by rfl, ?_⟩; intro w' hSw; (try dsimp only at hSw); go_simp; with_reducible rfl)); exact hH)
    try simp only [Act.put, List.getElem_toArray, List.getElem_cons_succ, List.getElem_cons_zero, List.setIfInBounds_toArray, List.set_cons_zero, List.set_cons_succ]
    refine wpAnyH_done (by kernel_rfl) ?_ _
    refine NoPanic.normal ?_
    go_wp2_with fail
    go_ret
    obtain ⟨rfl, hb0⟩ := HB0.out
    have h5 := hb0.trans hb4
    exact ⟨_, by simp, hO2, h5⟩
  · skip
    go_simp
    with_reducible refine (cmd_curves q 4 _).mono ?_
    rintro e w5 ⟨v5, rfl, hO5, hc5⟩
    obtain ⟨bp, cp, rfl, hBp, hPp⟩ := PieceAt.own hO5 (by omega) (by simp [wordAt, Value.oneCell'])
    have hb5 := below_next (hbR) hc5
    try go_wp2_with fail
    have Ph5 := hPp
    refine hK.out _ _ (KE.out _ hb5) (fun hH5 => ?_)
    clear hK K hH
    have hH := hH5
    clear hH5
    try simp only [Act.put, List.getElem_toArray, List.getElem_cons_succ, List.getElem_cons_zero, List.setIfInBounds_toArray, List.set_cons_zero, List.set_cons_succ]
    refine wpAnyH_ready (rs := [4]) (by kernel_rfl) (by simp) ?_
    refine (AllReadyH.cons rfl (fun K hK => ?_) AllReadyH.nil)
    go_simp
    have Ph6 := (Ph5).next ((Below.refl (w5).heap.size (w5)).alloc (Nat.le_refl _) (.cells #[.iface 76 (.pointer (some ⟨q, 4, none⟩))] 20))
    have Sb6 : Blk (w5.alloc (.cells #[.iface 76 (.pointer (some ⟨q, 4, none⟩))] 20)) (w5.heap.size) 20 #[.iface 76 (.pointer (some ⟨q, 4, none⟩))] := Blk.new_at (by simp)
    have QGS : W0.heap.size ≤ w5.heap.size := Nat.le_trans (Below.size (hb5)) (Nat.le_of_eq (by simp))
    have hb6 := Below.alloc (hb5) (Below.size (hb5)) (.cells #[.iface 76 (.pointer (some ⟨q, 4, none⟩))] 20)
    refine hK.out _ _ (KE.out _ hb6) (fun hH6 => ?_)
    clear hK K hH
    have hH := hH6
    clear hH6
    try simp only [Act.put, List.getElem_toArray, List.getElem_cons_succ, List.getElem_cons_zero, List.setIfInBounds_toArray, List.set_cons_zero, List.set_cons_succ]
    refine wpAnyH_ready (rs := [7]) (by kernel_rfl) (by simp) ?_
    refine (AllReadyH.cons rfl (fun K hK => ?_) AllReadyH.nil)
    go_simp
    have Ph7 := (Ph6).next ((Below.refl ((w5.alloc (.cells #[.iface 76 (.pointer (some ⟨q, 4, none⟩))] 20))).heap.size ((w5.alloc (.cells #[.iface 76 (.pointer (some ⟨q, 4, none⟩))] 20)))).alloc (Nat.le_refl _) (.cells #[.slice (some ⟨(w5.heap.size), 0, none⟩) 1 1, .slice (some ⟨bp, 0, none⟩) 9 cp] 55))
    have NESR7 : w5.heap.size ≠ w5.heap.size + 1 := Nat.ne_of_lt (Nat.lt_of_lt_of_eq (Blk.lt Sb6) (by simp))
    have Sb7 := Blk.alloc Sb6 (.cells #[.slice (some ⟨(w5.heap.size), 0, none⟩) 1 1, .slice (some ⟨bp, 0, none⟩) 9 cp] 55)
    have Rb7 : Blk ((w5.alloc (.cells #[.iface 76 (.pointer (some ⟨q, 4, none⟩))] 20)).alloc (.cells #[.slice (some ⟨(w5.heap.size), 0, none⟩) 1 1, .slice (some ⟨bp, 0, none⟩) 9 cp] 55)) (w5.heap.size + 1) 55 #[.slice (some ⟨(w5.heap.size), 0, none⟩) 1 1, .slice (some ⟨bp, 0, none⟩) 9 cp] := Blk.new_at (by simp)
    have QGR : W0.heap.size ≤ w5.heap.size + 1 := Nat.le_trans (Below.size (hb6)) (Nat.le_of_eq (by simp))
    have hb7 := Below.alloc (hb6) (Below.size (hb6)) (.cells #[.slice (some ⟨(w5.heap.size), 0, none⟩) 1 1, .slice (some ⟨bp, 0, none⟩) 9 cp] 55)
    refine hK.out _ _ (KE.out _ hb7) (fun hH7 => ?_)
    clear hK K hH
    have hH := hH7
    clear hH7
    try simp only [Act.put, List.getElem_toArray, List.getElem_cons_succ, List.getElem_cons_zero, List.setIfInBounds_toArray, List.set_cons_zero, List.set_cons_succ]
    refine wpAnyH_ready (rs := [8]) (by kernel_rfl) (by simp) ?_
    refine (AllReadyH.cons rfl (fun K hK => ?_) AllReadyH.nil)
    go_simp
    with_reducible refine (cmd_concat2 _ 2 _ _ 1 cp [intAt q 4] [wordAt q (4 + 3), wordAt q (4 + 4), wordAt q (4 + 5), wordAt q (4 + 6), wordAt q (4 + 7), wordAt q (4 + 8), wordAt q (4 + 9), wordAt q (4 + 10), wordAt q (4 + 11)] _ (Rb7).lt ((Rb7).get 0 rfl) ((Rb7).get 1 rfl) (PieceAt.blk (Sb7) rfl (by simp [wordAt, intAt, flagAt, Value.oneCell'])) (Ph7) (by simp) (by simp)).mono ?_
    rintro e w8 ⟨v8, rfl, hO, hc8⟩
    have hO2 := own_less hO (Below.size (hb7))
    have hb8 := below_next (hb7) hc8
    try go_wp2_with fail
    refine hK.out _ _ (KE.out _ hb8) (fun hH8 => ?_)
    clear hK K hH
    have hH := hH8
    clear hH8
    try simp only [Act.put, List.getElem_toArray, List.getElem_cons_succ, List.getElem_cons_zero, List.setIfInBounds_toArray, List.set_cons_zero, List.set_cons_succ]
    first | (refine wpAnyH_take (i := 9) (v := undef) rfl ?_ ?_ ?_ (fun _ _ _ h => h) ?_ ?_ ?_; kernel_rfl; kernel_rfl; kernel_rfl; exact Or.inr ⟨by rfl, rfl⟩; exact hH) | (refine wpAnyH_take (i := 9) (v := ?_) rfl ?_ ?_ ?_ (fun _ _ _ h => h) ?_ ?_ ?_; rotate_left; kernel_rfl; kernel_rfl; kernel_rfl; (focus (refine Or.inl ⟨by rfl, ?_⟩; intro w' hSw; (try dsimp only at hSw); go_simp)); exact hH) | (refine wpAnyH_take (i := 9) (v := ?_) rfl ?_ ?_ ?_ (fun _ _ _ h => h) ?_ ?_ ?_; rotate_left; kernel_rfl; kernel_rfl; kernel_rfl; (focus (refine Or.inl ⟨by rfl, ?_⟩; intro w' hSw; (try dsimp only at hSw); go_simp; with_reducible rfl)); exact hH)
    try simp only [Act.put, List.getElem_toArray, List.getElem_cons_succ, List.getElem_cons_zero, List.setIfInBounds_toArray, List.set_cons_zero, List.set_cons_succ]
    refine wpAnyH_done (by kernel_rfl) ?_ _
    refine NoPanic.normal ?_
    go_wp2_with fail
    go_ret
    obtain ⟨rfl, hb0⟩ := HB0.out
    have h5 := hb0.trans hb8
    exact ⟨_, by simp, hO2, h5⟩

set_option maxHeartbeats 16000000 in
theorem cmd_parts_add (q : Nat) (w : World) (hk : w.cell? ⟨q, 0, none⟩ = some (.int .u8 2)) :
    Calls Tryd.prog 15 #[.pointer (some ⟨q, 0, none⟩)] w fun e w' => ∃ v, e = .returned v ∧ w'.ownsRow w.heap.size 20 1 v 14 [intAt q 4, intAt q 5, flagAt q 6, wordAt q 7, wordAt q 8, wordAt q 9, wordAt q 10, wordAt q 11, wordAt q 12, wordAt q 13, wordAt q 14, wordAt q 15, intAt q 16, intAt q 17] ∧ Below w.heap.size w w' := by
  obtain ⟨B, hB⟩ : ∃ B, w.heap.size = B := ⟨_, rfl⟩
  rw [hB]
  have HB := Lib.hid hB
  clear hB
  go_enter Tryd.func15, Tryd.ntmps15
  go_upto_region 6 with (first | go_quiet (fail))
  generalize hW0 : w.drewN _ = W0
  have hsz : W0.heap.size = B := by rw [← hW0, ← HB.out]; rfl
  have hb0 : Below B w W0 := by rw [← hW0]; exact below_of_drewN _ _ _
  have HB0 := Lib.hid (And.intro hsz hb0)
  clear hW0 hb0 hsz hk
  have KE : Hid (∀ w', Below (W0.heap.size) W0 w' → (True) ∧ Below (W0.heap.size) W0 w') := fun w' hb => ⟨trivial, hb⟩
  refine wp_region_noPanic ?_
  refine wp_region_held_drew (S := fun w' => (True) ∧ Below (W0.heap.size) W0 w') (by kernel_rfl) (KE.out _ (below_of_drew ((Below.refl W0.heap.size W0)))) (fun hH => ?_)
  have hbR := below_of_drew ((Below.refl W0.heap.size W0))
  first | (refine wpAnyH_take (i := 0) (v := undef) rfl ?_ ?_ ?_ (fun _ _ _ h => h) ?_ ?_ ?_; kernel_rfl; kernel_rfl; kernel_rfl; exact Or.inr ⟨by rfl, rfl⟩; exact hH) | (refine wpAnyH_take (i := 0) (v := ?_) rfl ?_ ?_ ?_ (fun _ _ _ h => h) ?_ ?_ ?_; rotate_left; kernel_rfl; kernel_rfl; kernel_rfl; (focus (refine Or.inl ⟨by rfl, ?_⟩; intro w' hSw; (try dsimp only at hSw); go_simp)); exact hH) | (refine wpAnyH_take (i := 0) (v := ?_) rfl ?_ ?_ ?_ (fun _ _ _ h => h) ?_ ?_ ?_; rotate_left; kernel_rfl; kernel_rfl; kernel_rfl; (focus (refine Or.inl ⟨by rfl, ?_⟩; intro w' hSw; (try dsimp only at hSw); go_simp; with_reducible rfl)); exact hH)
  try simp only [Act.put, List.getElem_toArray, List.getElem_cons_succ, List.getElem_cons_zero, List.setIfInBounds_toArray, List.set_cons_zero, List.set_cons_succ]
  first | (refine wpAnyH_take (i := 1) (v := undef) rfl ?_ ?_ ?_ (fun _ _ _ h => h) ?_ ?_ ?_; kernel_rfl; kernel_rfl; kernel_rfl; exact Or.inr ⟨by rfl, rfl⟩; exact hH) | (refine wpAnyH_take (i := 1) (v := ?_) rfl ?_ ?_ ?_ (fun _ _ _ h => h) ?_ ?_ ?_; rotate_left; kernel_rfl; kernel_rfl; kernel_rfl; (focus (refine Or.inl ⟨by rfl, ?_⟩; intro w' hSw; (try dsimp only at hSw); go_simp)); exact hH) | (refine wpAnyH_take (i := 1) (v := ?_) rfl ?_ ?_ ?_ (fun _ _ _ h => h) ?_ ?_ ?_; rotate_left; kernel_rfl; kernel_rfl; kernel_rfl; (focus (refine Or.inl ⟨by rfl, ?_⟩; intro w' hSw; (try dsimp only at hSw); go_simp; with_reducible rfl)); exact hH)
  try simp only [Act.put, List.getElem_toArray, List.getElem_cons_succ, List.getElem_cons_zero, List.setIfInBounds_toArray, List.set_cons_zero, List.set_cons_succ]
  first | (refine wpAnyH_take (i := 2) (v := undef) rfl ?_ ?_ ?_ (fun _ _ _ h => h) ?_ ?_ ?_; kernel_rfl; kernel_rfl; kernel_rfl; exact Or.inr ⟨by rfl, rfl⟩; exact hH) | (refine wpAnyH_take (i := 2) (v := ?_) rfl ?_ ?_ ?_ (fun _ _ _ h => h) ?_ ?_ ?_; rotate_left; kernel_rfl; kernel_rfl; kernel_rfl; (focus (refine Or.inl ⟨by rfl, ?_⟩; intro w' hSw; (try dsimp only at hSw); go_simp)); exact hH) | (refine wpAnyH_take (i := 2) (v := ?_) rfl ?_ ?_ ?_ (fun _ _ _ h => h) ?_ ?_ ?_; rotate_left; kernel_rfl; kernel_rfl; kernel_rfl; (focus (refine Or.inl ⟨by rfl, ?_⟩; intro w' hSw; (try dsimp only at hSw); go_simp; with_reducible rfl)); exact hH)
  try simp only [Act.put, List.getElem_toArray, List.getElem_cons_succ, List.getElem_cons_zero, List.setIfInBounds_toArray, List.set_cons_zero, List.set_cons_succ]
  first | (refine wpAnyH_take (i := 3) (v := undef) rfl ?_ ?_ ?_ (fun _ _ _ h => h) ?_ ?_ ?_; kernel_rfl; kernel_rfl; kernel_rfl; exact Or.inr ⟨by rfl, rfl⟩; exact hH) | (refine wpAnyH_take (i := 3) (v := ?_) rfl ?_ ?_ ?_ (fun _ _ _ h => h) ?_ ?_ ?_; rotate_left; kernel_rfl; kernel_rfl; kernel_rfl; (focus (refine Or.inl ⟨by rfl, ?_⟩; intro w' hSw; (try dsimp only at hSw); go_simp)); exact hH) | (refine wpAnyH_take (i := 3) (v := ?_) rfl ?_ ?_ ?_ (fun _ _ _ h => h) ?_ ?_ ?_; rotate_left; kernel_rfl; kernel_rfl; kernel_rfl; (focus (refine Or.inl ⟨by rfl, ?_⟩; intro w' hSw; (try dsimp only at hSw); go_simp; with_reducible rfl)); exact hH)
  try simp only [Act.put, List.getElem_toArray, List.getElem_cons_succ, List.getElem_cons_zero, List.setIfInBounds_toArray, List.set_cons_zero, List.set_cons_succ]
  first | (refine wpAnyH_take (i := 4) (v := undef) rfl ?_ ?_ ?_ (fun _ _ _ h => h) ?_ ?_ ?_; kernel_rfl; kernel_rfl; kernel_rfl; exact Or.inr ⟨by rfl, rfl⟩; exact hH) | (refine wpAnyH_take (i := 4) (v := ?_) rfl ?_ ?_ ?_ (fun _ _ _ h => h) ?_ ?_ ?_; rotate_left; kernel_rfl; kernel_rfl; kernel_rfl; (focus (refine Or.inl ⟨by rfl, ?_⟩; intro w' hSw; (try dsimp only at hSw); go_simp)); exact hH) | (refine wpAnyH_take (i := 4) (v := ?_) rfl ?_ ?_ ?_ (fun _ _ _ h => h) ?_ ?_ ?_; rotate_left; kernel_rfl; kernel_rfl; kernel_rfl; (focus (refine Or.inl ⟨by rfl, ?_⟩; intro w' hSw; (try dsimp only at hSw); go_simp; with_reducible rfl)); exact hH)
  try simp only [Act.put, List.getElem_toArray, List.getElem_cons_succ, List.getElem_cons_zero, List.setIfInBounds_toArray, List.set_cons_zero, List.set_cons_succ]
  first | (refine wpAnyH_take (i := 5) (v := undef) rfl ?_ ?_ ?_ (fun _ _ _ h => h) ?_ ?_ ?_; kernel_rfl; kernel_rfl; kernel_rfl; exact Or.inr ⟨by rfl, rfl⟩; exact hH) | (refine wpAnyH_take (i := 5) (v := ?_) rfl ?_ ?_ ?_ (fun _ _ _ h => h) ?_ ?_ ?_; rotate_left; kernel_rfl; kernel_rfl; kernel_rfl; (focus (refine Or.inl ⟨by rfl, ?_⟩; intro w' hSw; (try dsimp only at hSw); go_simp)); exact hH) | (refine wpAnyH_take (i := 5) (v := ?_) rfl ?_ ?_ ?_ (fun _ _ _ h => h) ?_ ?_ ?_; rotate_left; kernel_rfl; kernel_rfl; kernel_rfl; (focus (refine Or.inl ⟨by rfl, ?_⟩; intro w' hSw; (try dsimp only at hSw); go_simp; with_reducible rfl)); exact hH)
  try simp only [Act.put, List.getElem_toArray, List.getElem_cons_succ, List.getElem_cons_zero, List.setIfInBounds_toArray, List.set_cons_zero, List.set_cons_succ]
  first | (refine wpAnyH_take (i := 6) (v := undef) rfl ?_ ?_ ?_ (fun _ _ _ h => h) ?_ ?_ ?_; kernel_rfl; kernel_rfl; kernel_rfl; exact Or.inr ⟨by rfl, rfl⟩; exact hH) | (refine wpAnyH_take (i := 6) (v := ?_) rfl ?_ ?_ ?_ (fun _ _ _ h => h) ?_ ?_ ?_; rotate_left; kernel_rfl; kernel_rfl; kernel_rfl; (focus (refine Or.inl ⟨by rfl, ?_⟩; intro w' hSw; (try dsimp only at hSw); go_simp)); exact hH) | (refine wpAnyH_take (i := 6) (v := ?_) rfl ?_ ?_ ?_ (fun _ _ _ h => h) ?_ ?_ ?_; rotate_left; kernel_rfl; kernel_rfl; kernel_rfl; (focus (refine Or.inl ⟨by rfl, ?_⟩; intro w' hSw; (try dsimp only at hSw); go_simp; with_reducible rfl)); exact hH)
  try simp only [Act.put, List.getElem_toArray, List.getElem_cons_succ, List.getElem_cons_zero, List.setIfInBounds_toArray, List.set_cons_zero, List.set_cons_succ]
  first | (refine wpAnyH_take (i := 7) (v := undef) rfl ?_ ?_ ?_ (fun _ _ _ h => h) ?_ ?_ ?_; kernel_rfl; kernel_rfl; kernel_rfl; exact Or.inr ⟨by rfl, rfl⟩; exact hH) | (refine wpAnyH_take (i := 7) (v := ?_) rfl ?_ ?_ ?_ (fun _ _ _ h => h) ?_ ?_ ?_; rotate_left; kernel_rfl; kernel_rfl; kernel_rfl; (focus (refine Or.inl ⟨by rfl, ?_⟩; intro w' hSw; (try dsimp only at hSw); go_simp)); exact hH) | (refine wpAnyH_take (i := 7) (v := ?_) rfl ?_ ?_ ?_ (fun _ _ _ h => h) ?_ ?_ ?_; rotate_left; kernel_rfl; kernel_rfl; kernel_rfl; (focus (refine Or.inl ⟨by rfl, ?_⟩; intro w' hSw; (try dsimp only at hSw); go_simp; with_reducible rfl)); exact hH)
  try simp only [Act.put, List.getElem_toArray, List.getElem_cons_succ, List.getElem_cons_zero, List.setIfInBounds_toArray, List.set_cons_zero, List.set_cons_succ]
  first | (refine wpAnyH_take (i := 8) (v := undef) rfl ?_ ?_ ?_ (fun _ _ _ h => h) ?_ ?_ ?_; kernel_rfl; kernel_rfl; kernel_rfl; exact Or.inr ⟨by rfl, rfl⟩; exact hH) | (refine wpAnyH_take (i := 8) (v := ?_) rfl ?_ ?_ ?_ (fun _ _ _ h => h) ?_ ?_ ?_; rotate_left; kernel_rfl; kernel_rfl; kernel_rfl; (focus (refine Or.inl ⟨by rfl, ?_⟩; intro w' hSw; (try dsimp only at hSw); go_simp)); exact hH) | (refine wpAnyH_take (i := 8) (v := ?_) rfl ?_ ?_ ?_ (fun _ _ _ h => h) ?_ ?_ ?_; rotate_left; kernel_rfl; kernel_rfl; kernel_rfl; (focus (refine Or.inl ⟨by rfl, ?_⟩; intro w' hSw; (try dsimp only at hSw); go_simp; with_reducible rfl)); exact hH)
  try simp only [Act.put, List.getElem_toArray, List.getElem_cons_succ, List.getElem_cons_zero, List.setIfInBounds_toArray, List.set_cons_zero, List.set_cons_succ]
  first | (refine wpAnyH_take (i := 9) (v := undef) rfl ?_ ?_ ?_ (fun _ _ _ h => h) ?_ ?_ ?_; kernel_rfl; kernel_rfl; kernel_rfl; exact Or.inr ⟨by rfl, rfl⟩; exact hH) | (refine wpAnyH_take (i := 9) (v := ?_) rfl ?_ ?_ ?_ (fun _ _ _ h => h) ?_ ?_ ?_; rotate_left; kernel_rfl; kernel_rfl; kernel_rfl; (focus (refine Or.inl ⟨by rfl, ?_⟩; intro w' hSw; (try dsimp only at hSw); go_simp)); exact hH) | (refine wpAnyH_take (i := 9) (v := ?_) rfl ?_ ?_ ?_ (fun _ _ _ h => h) ?_ ?_ ?_; rotate_left; kernel_rfl; kernel_rfl; kernel_rfl; (focus (refine Or.inl ⟨by rfl, ?_⟩; intro w' hSw; (try dsimp only at hSw); go_simp; with_reducible rfl)); exact hH)
  try simp only [Act.put, List.getElem_toArray, List.getElem_cons_succ, List.getElem_cons_zero, List.setIfInBounds_toArray, List.set_cons_zero, List.set_cons_succ]
  first | (refine wpAnyH_take (i := 10) (v := undef) rfl ?_ ?_ ?_ (fun _ _ _ h => h) ?_ ?_ ?_; kernel_rfl; kernel_rfl; kernel_rfl; exact Or.inr ⟨by rfl, rfl⟩; exact hH) | (refine wpAnyH_take (i := 10) (v := ?_) rfl ?_ ?_ ?_ (fun _ _ _ h => h) ?_ ?_ ?_; rotate_left; kernel_rfl; kernel_rfl; kernel_rfl; (focus (refine Or.inl ⟨by rfl, ?_⟩; intro w' hSw; (try dsimp only at hSw); go_simp)); exact hH) | (refine wpAnyH_take (i := 10) (v := ?_) rfl ?_ ?_ ?_ (fun _ _ _ h => h) ?_ ?_ ?_; rotate_left; kernel_rfl; kernel_rfl; kernel_rfl; (focus (refine Or.inl ⟨by rfl, ?_⟩; intro w' hSw; (try dsimp only at hSw); go_simp; with_reducible rfl)); exact hH)
  try simp only [Act.put, List.getElem_toArray, List.getElem_cons_succ, List.getElem_cons_zero, List.setIfInBounds_toArray, List.set_cons_zero, List.set_cons_succ]
  first | (refine wpAnyH_take (i := 11) (v := undef) rfl ?_ ?_ ?_ (fun _ _ _ h => h) ?_ ?_ ?_; kernel_rfl; kernel_rfl; kernel_rfl; exact Or.inr ⟨by rfl, rfl⟩; exact hH) | (refine wpAnyH_take (i := 11) (v := ?_) rfl ?_ ?_ ?_ (fun _ _ _ h => h) ?_ ?_ ?_; rotate_left; kernel_rfl; kernel_rfl; kernel_rfl; (focus (refine Or.inl ⟨by rfl, ?_⟩; intro w' hSw; (try dsimp only at hSw); go_simp)); exact hH) | (refine wpAnyH_take (i := 11) (v := ?_) rfl ?_ ?_ ?_ (fun _ _ _ h => h) ?_ ?_ ?_; rotate_left; kernel_rfl; kernel_rfl; kernel_rfl; (focus (refine Or.inl ⟨by rfl, ?_⟩; intro w' hSw; (try dsimp only at hSw); go_simp; with_reducible rfl)); exact hH)
  try simp only [Act.put, List.getElem_toArray, List.getElem_cons_succ, List.getElem_cons_zero, List.setIfInBounds_toArray, List.set_cons_zero, List.set_cons_succ]
  first | (refine wpAnyH_take (i := 13) (v := undef) rfl ?_ ?_ ?_ (fun _ _ _ h => h) ?_ ?_ ?_; kernel_rfl; kernel_rfl; kernel_rfl; exact Or.inr ⟨by rfl, rfl⟩; exact hH) | (refine wpAnyH_take (i := 13) (v := ?_) rfl ?_ ?_ ?_ (fun _ _ _ h => h) ?_ ?_ ?_; rotate_left; kernel_rfl; kernel_rfl; kernel_rfl; (focus (refine Or.inl ⟨by rfl, ?_⟩; intro w' hSw; (try dsimp only at hSw); go_simp)); exact hH) | (refine wpAnyH_take (i := 13) (v := ?_) rfl ?_ ?_ ?_ (fun _ _ _ h => h) ?_ ?_ ?_; rotate_left; kernel_rfl; kernel_rfl; kernel_rfl; (focus (refine Or.inl ⟨by rfl, ?_⟩; intro w' hSw; (try dsimp only at hSw); go_simp; with_reducible rfl)); exact hH)
  try simp only [Act.put, List.getElem_toArray, List.getElem_cons_succ, List.getElem_cons_zero, List.setIfInBounds_toArray, List.set_cons_zero, List.set_cons_succ]
  first | (refine wpAnyH_take (i := 15) (v := undef) rfl ?_ ?_ ?_ (fun _ _ _ h => h) ?_ ?_ ?_; kernel_rfl; kernel_rfl; kernel_rfl; exact Or.inr ⟨by rfl, rfl⟩; exact hH) | (refine wpAnyH_take (i := 15) (v := ?_) rfl ?_ ?_ ?_ (fun _ _ _ h => h) ?_ ?_ ?_; rotate_left; kernel_rfl; kernel_rfl; kernel_rfl; (focus (refine Or.inl ⟨by rfl, ?_⟩; intro w' hSw; (try dsimp only at hSw); go_simp)); exact hH) | (refine wpAnyH_take (i := 15) (v := ?_) rfl ?_ ?_ ?_ (fun _ _ _ h => h) ?_ ?_ ?_; rotate_left; kernel_rfl; kernel_rfl; kernel_rfl; (focus (refine Or.inl ⟨by rfl, ?_⟩; intro w' hSw; (try dsimp only at hSw); go_simp; with_reducible rfl)); exact hH)
  try simp only [Act.put, List.getElem_toArray, List.getElem_cons_succ, List.getElem_cons_zero, List.setIfInBounds_toArray, List.set_cons_zero, List.set_cons_succ]
  first | (refine wpAnyH_take (i := 16) (v := undef) rfl ?_ ?_ ?_ (fun _ _ _ h => h) ?_ ?_ ?_; kernel_rfl; kernel_rfl; kernel_rfl; exact Or.inr ⟨by rfl, rfl⟩; exact hH) | (refine wpAnyH_take (i := 16) (v := ?_) rfl ?_ ?_ ?_ (fun _ _ _ h => h) ?_ ?_ ?_; rotate_left; kernel_rfl; kernel_rfl; kernel_rfl; (focus (refine Or.inl ⟨by rfl, ?_⟩; intro w' hSw; (try dsimp only at hSw); go_simp)); exact hH) | (refine wpAnyH_take (i := 16) (v := ?_) rfl ?_ ?_ ?_ (fun _ _ _ h => h) ?_ ?_ ?_; rotate_left; kernel_rfl; kernel_rfl; kernel_rfl; (focus (refine Or.inl ⟨by rfl, ?_⟩; intro w' hSw; (try dsimp only at hSw); go_simp; with_reducible rfl)); exact hH)
  try simp only [Act.put, List.getElem_toArray, List.getElem_cons_succ, List.getElem_cons_zero, List.setIfInBounds_toArray, List.set_cons_zero, List.set_cons_succ]
  first | (refine wpAnyH_take (i := 17) (v := undef) rfl ?_ ?_ ?_ (fun _ _ _ h => h) ?_ ?_ ?_; kernel_rfl; kernel_rfl; kernel_rfl; exact Or.inr ⟨by rfl, rfl⟩; exact hH) | (refine wpAnyH_take (i := 17) (v := ?_) rfl ?_ ?_ ?_ (fun _ _ _ h => h) ?_ ?_ ?_; rotate_left; kernel_rfl; kernel_rfl; kernel_rfl; (focus (refine Or.inl ⟨by rfl, ?_⟩; intro w' hSw; (try dsimp only at hSw); go_simp)); exact hH) | (refine wpAnyH_take (i := 17) (v := ?_) rfl ?_ ?_ ?_ (fun _ _ _ h => h) ?_ ?_ ?_; rotate_left; kernel_rfl; kernel_rfl; kernel_rfl; (focus (refine Or.inl ⟨by rfl, ?_⟩; intro w' hSw; (try dsimp only at hSw); go_simp; with_reducible rfl)); exact hH)
  try simp only [Act.put, List.getElem_toArray, List.getElem_cons_succ, List.getElem_cons_zero, List.setIfInBounds_toArray, List.set_cons_zero, List.set_cons_succ]
  first | (refine wpAnyH_take (i := 18) (v := undef) rfl ?_ ?_ ?_ (fun _ _ _ h => h) ?_ ?_ ?_; kernel_rfl; kernel_rfl; kernel_rfl; exact Or.inr ⟨by rfl, rfl⟩; exact hH) | (refine wpAnyH_take (i := 18) (v := ?_) rfl ?_ ?_ ?_ (fun _ _ _ h => h) ?_ ?_ ?_; rotate_left; kernel_rfl; kernel_rfl; kernel_rfl; (focus (refine Or.inl ⟨by rfl, ?_⟩; intro w' hSw; (try dsimp only at hSw); go_simp)); exact hH) | (refine wpAnyH_take (i := 18) (v := ?_) rfl ?_ ?_ ?_ (fun _ _ _ h => h) ?_ ?_ ?_; rotate_left; kernel_rfl; kernel_rfl; kernel_rfl; (focus (refine Or.inl ⟨by rfl, ?_⟩; intro w' hSw; (try dsimp only at hSw); go_simp; with_reducible rfl)); exact hH)
  try simp only [Act.put, List.getElem_toArray, List.getElem_cons_succ, List.getElem_cons_zero, List.setIfInBounds_toArray, List.set_cons_zero, List.set_cons_succ]
  first | (refine wpAnyH_take (i := 19) (v := undef) rfl ?_ ?_ ?_ (fun _ _ _ h => h) ?_ ?_ ?_; kernel_rfl; kernel_rfl; kernel_rfl; exact Or.inr ⟨by rfl, rfl⟩; exact hH) | (refine wpAnyH_take (i := 19) (v := ?_) rfl ?_ ?_ ?_ (fun _ _ _ h => h) ?_ ?_ ?_; rotate_left; kernel_rfl; kernel_rfl; kernel_rfl; (focus (refine Or.inl ⟨by rfl, ?_⟩; intro w' hSw; (try dsimp only at hSw); go_simp)); exact hH) | (refine wpAnyH_take (i := 19) (v := ?_) rfl ?_ ?_ ?_ (fun _ _ _ h => h) ?_ ?_ ?_; rotate_left; kernel_rfl; kernel_rfl; kernel_rfl; (focus (refine Or.inl ⟨by rfl, ?_⟩; intro w' hSw; (try dsimp only at hSw); go_simp; with_reducible rfl)); exact hH)
  try simp only [Act.put, List.getElem_toArray, List.getElem_cons_succ, List.getElem_cons_zero, List.setIfInBounds_toArray, List.set_cons_zero, List.set_cons_succ]
  first | (refine wpAnyH_take (i := 20) (v := undef) rfl ?_ ?_ ?_ (fun _ _ _ h => h) ?_ ?_ ?_; kernel_rfl; kernel_rfl; kernel_rfl; exact Or.inr ⟨by rfl, rfl⟩; exact hH) | (refine wpAnyH_take (i := 20) (v := ?_) rfl ?_ ?_ ?_ (fun _ _ _ h => h) ?_ ?_ ?_; rotate_left; kernel_rfl; kernel_rfl; kernel_rfl; (focus (refine Or.inl ⟨by rfl, ?_⟩; intro w' hSw; (try dsimp only at hSw); go_simp)); exact hH) | (refine wpAnyH_take (i := 20) (v := ?_) rfl ?_ ?_ ?_ (fun _ _ _ h => h) ?_ ?_ ?_; rotate_left; kernel_rfl; kernel_rfl; kernel_rfl; (focus (refine Or.inl ⟨by rfl, ?_⟩; intro w' hSw; (try dsimp only at hSw); go_simp; with_reducible rfl)); exact hH)
  try simp only [Act.put, List.getElem_toArray, List.getElem_cons_succ, List.getElem_cons_zero, List.setIfInBounds_toArray, List.set_cons_zero, List.set_cons_succ]
  first | (refine wpAnyH_take (i := 21) (v := undef) rfl ?_ ?_ ?_ (fun _ _ _ h => h) ?_ ?_ ?_; kernel_rfl; kernel_rfl; kernel_rfl; exact Or.inr ⟨by rfl, rfl⟩; exact hH) | (refine wpAnyH_take (i := 21) (v := ?_) rfl ?_ ?_ ?_ (fun _ _ _ h => h) ?_ ?_ ?_; rotate_left; kernel_rfl; kernel_rfl; kernel_rfl; (focus (refine Or.inl ⟨by rfl, ?_⟩; intro w' hSw; (try dsimp only at hSw); go_simp)); exact hH) | (refine wpAnyH_take (i := 21) (v := ?_) rfl ?_ ?_ ?_ (fun _ _ _ h => h) ?_ ?_ ?_; rotate_left; kernel_rfl; kernel_rfl; kernel_rfl; (focus (refine Or.inl ⟨by rfl, ?_⟩; intro w' hSw; (try dsimp only at hSw); go_simp; with_reducible rfl)); exact hH)
  try simp only [Act.put, List.getElem_toArray, List.getElem_cons_succ, List.getElem_cons_zero, List.setIfInBounds_toArray, List.set_cons_zero, List.set_cons_succ]
  first | (refine wpAnyH_take (i := 22) (v := undef) rfl ?_ ?_ ?_ (fun _ _ _ h => h) ?_ ?_ ?_; kernel_rfl; kernel_rfl; kernel_rfl; exact Or.inr ⟨by rfl, rfl⟩; exact hH) | (refine wpAnyH_take (i := 22) (v := ?_) rfl ?_ ?_ ?_ (fun _ _ _ h => h) ?_ ?_ ?_; rotate_left; kernel_rfl; kernel_rfl; kernel_rfl; (focus (refine Or.inl ⟨by rfl, ?_⟩; intro w' hSw; (try dsimp only at hSw); go_simp)); exact hH) | (refine wpAnyH_take (i := 22) (v := ?_) rfl ?_ ?_ ?_ (fun _ _ _ h => h) ?_ ?_ ?_; rotate_left; kernel_rfl; kernel_rfl; kernel_rfl; (focus (refine Or.inl ⟨by rfl, ?_⟩; intro w' hSw; (try dsimp only at hSw); go_simp; with_reducible rfl)); exact hH)
  try simp only [Act.put, List.getElem_toArray, List.getElem_cons_succ, List.getElem_cons_zero, List.setIfInBounds_toArray, List.set_cons_zero, List.set_cons_succ]
  refine wpAnyH_ready (rs := [12, 14, 23]) (by kernel_rfl) (by simp) ?_
  refine (AllReadyH.cons rfl (fun K hK => ?_) (AllReadyH.cons rfl (fun K hK => ?_) (AllReadyH.cons rfl (fun K hK => ?_) AllReadyH.nil)))
  · skip
    go_simp
    have Sb1 : Blk (W0.drew.alloc (.cells #[.iface 76 (.pointer (some ⟨q, 4, none⟩)), .iface 76 (.pointer (some ⟨q, 5, none⟩)), .iface 79 (.pointer (some ⟨q, 6, none⟩))] 20)) (W0.heap.size) 20 #[.iface 76 (.pointer (some ⟨q, 4, none⟩)), .iface 76 (.pointer (some ⟨q, 5, none⟩)), .iface 79 (.pointer (some ⟨q, 6, none⟩))] := Blk.new_at (by simp)
    have QGS : W0.heap.size ≤ W0.heap.size := Nat.le_trans (Below.size (hbR)) (Nat.le_of_eq (by simp))
    have hb1 := Below.alloc (hbR) (Below.size (hbR)) (.cells #[.iface 76 (.pointer (some ⟨q, 4, none⟩)), .iface 76 (.pointer (some ⟨q, 5, none⟩)), .iface 79 (.pointer (some ⟨q, 6, none⟩))] 20)
    refine hK.out _ _ (KE.out _ hb1) (fun hH1 => ?_)
    clear hK K hH
    have hH := hH1
    clear hH1
    try simp only [Act.put, List.getElem_toArray, List.getElem_cons_succ, List.getElem_cons_zero, List.setIfInBounds_toArray, List.set_cons_zero, List.set_cons_succ]
    refine wpAnyH_ready (rs := [14, 23]) (by kernel_rfl) (by simp) ?_
    refine (AllReadyH.cons rfl (fun K hK => ?_) (AllReadyH.cons rfl (fun K hK => ?_) AllReadyH.nil))
    · skip
      go_simp
      with_reducible refine (cmd_curves q 4 _).mono ?_
      rintro e w2 ⟨v2, rfl, hO2, hc2⟩
      obtain ⟨bp, cp, rfl, hBp, hPp⟩ := PieceAt.own hO2 (by omega) (by simp [wordAt, Value.oneCell'])
      have hb2 := below_next (hb1) hc2
      try go_wp2_with fail
      have Sb2 := Blk.next (Sb1) hc2
      have Ph2 := hPp
      refine hK.out _ _ (KE.out _ hb2) (fun hH2 => ?_)
      clear hK K hH
      have hH := hH2
      clear hH2
      try simp only [Act.put, List.getElem_toArray, List.getElem_cons_succ, List.getElem_cons_zero, List.setIfInBounds_toArray, List.set_cons_zero, List.set_cons_succ]
      refine wpAnyH_ready (rs := [23]) (by kernel_rfl) (by simp) ?_
      refine (AllReadyH.cons rfl (fun K hK => ?_) AllReadyH.nil)
      go_simp
      have Ph3 := (Ph2).next ((Below.refl (w2).heap.size (w2)).alloc (Nat.le_refl _) (.cells #[.iface 76 (.pointer (some ⟨q, 16, none⟩)), .iface 76 (.pointer (some ⟨q, 17, none⟩))] 20))
      have NEST3 : W0.heap.size ≠ w2.heap.size := Nat.ne_of_lt (Nat.lt_of_lt_of_eq (Blk.lt Sb2) (by simp))
      have Sb3 := Blk.alloc Sb2 (.cells #[.iface 76 (.pointer (some ⟨q, 16, none⟩)), .iface 76 (.pointer (some ⟨q, 17, none⟩))] 20)
      have Tb3 : Blk (w2.alloc (.cells #[.iface 76 (.pointer (some ⟨q, 16, none⟩)), .iface 76 (.pointer (some ⟨q, 17, none⟩))] 20)) (w2.heap.size) 20 #[.iface 76 (.pointer (some ⟨q, 16, none⟩)), .iface 76 (.pointer (some ⟨q, 17, none⟩))] := Blk.new_at (by simp)
      have QGT : W0.heap.size ≤ w2.heap.size := Nat.le_trans (Below.size (hb2)) (Nat.le_of_eq (by simp))
      have hb3 := Below.alloc (hb2) (Below.size (hb2)) (.cells #[.iface 76 (.pointer (some ⟨q, 16, none⟩)), .iface 76 (.pointer (some ⟨q, 17, none⟩))] 20)
      refine hK.out _ _ (KE.out _ hb3) (fun hH3 => ?_)
      clear hK K hH
      have hH := hH3
      clear hH3
      try simp only [Act.put, List.getElem_toArray, List.getElem_cons_succ, List.getElem_cons_zero, List.setIfInBounds_toArray, List.set_cons_zero, List.set_cons_succ]
      refine wpAnyH_ready (rs := [24]) (by kernel_rfl) (by simp) ?_
      refine (AllReadyH.cons rfl (fun K hK => ?_) AllReadyH.nil)
      go_simp
      have Ph4 := (Ph3).next ((Below.refl ((w2.alloc (.cells #[.iface 76 (.pointer (some ⟨q, 16, none⟩)), .iface 76 (.pointer (some ⟨q, 17, none⟩))] 20))).heap.size ((w2.alloc (.cells #[.iface 76 (.pointer (some ⟨q, 16, none⟩)), .iface 76 (.pointer (some ⟨q, 17, none⟩))] 20)))).alloc (Nat.le_refl _) (.cells #[.slice (some ⟨(W0.heap.size), 0, none⟩) 3 3, .slice (some ⟨bp, 0, none⟩) 9 cp, .slice (some ⟨(w2.heap.size), 0, none⟩) 2 2] 55))
      have NESR4 : W0.heap.size ≠ w2.heap.size + 1 := Nat.ne_of_lt (Nat.lt_of_lt_of_eq (Blk.lt Sb3) (by simp))
      have NETR4 : w2.heap.size ≠ w2.heap.size + 1 := Nat.ne_of_lt (Nat.lt_of_lt_of_eq (Blk.lt Tb3) (by simp))
      have Sb4 := Blk.alloc Sb3 (.cells #[.slice (some ⟨(W0.heap.size), 0, none⟩) 3 3, .slice (some ⟨bp, 0, none⟩) 9 cp, .slice (some ⟨(w2.heap.size), 0, none⟩) 2 2] 55)
      have Tb4 := Blk.alloc Tb3 (.cells #[.slice (some ⟨(W0.heap.size), 0, none⟩) 3 3, .slice (some ⟨bp, 0, none⟩) 9 cp, .slice (some ⟨(w2.heap.size), 0, none⟩) 2 2] 55)
      have Rb4 : Blk ((w2.alloc (.cells #[.iface 76 (.pointer (some ⟨q, 16, none⟩)), .iface 76 (.pointer (some ⟨q, 17, none⟩))] 20)).alloc (.cells #[.slice (some ⟨(W0.heap.size), 0, none⟩) 3 3, .slice (some ⟨bp, 0, none⟩) 9 cp, .slice (some ⟨(w2.heap.size), 0, none⟩) 2 2] 55)) (w2.heap.size + 1) 55 #[.slice (some ⟨(W0.heap.size), 0, none⟩) 3 3, .slice (some ⟨bp, 0, none⟩) 9 cp, .slice (some ⟨(w2.heap.size), 0, none⟩) 2 2] := Blk.new_at (by simp)
      have QGR : W0.heap.size ≤ w2.heap.size + 1 := Nat.le_trans (Below.size (hb3)) (Nat.le_of_eq (by simp))
      have hb4 := Below.alloc (hb3) (Below.size (hb3)) (.cells #[.slice (some ⟨(W0.heap.size), 0, none⟩) 3 3, .slice (some ⟨bp, 0, none⟩) 9 cp, .slice (some ⟨(w2.heap.size), 0, none⟩) 2 2] 55)
      refine hK.out _ _ (KE.out _ hb4) (fun hH4 => ?_)
      clear hK K hH
      have hH := hH4
      clear hH4
      try simp only [Act.put, List.getElem_toArray, List.getElem_cons_succ, List.getElem_cons_zero, List.setIfInBounds_toArray, List.set_cons_zero, List.set_cons_succ]
      refine wpAnyH_ready (rs := [25]) (by kernel_rfl) (by simp) ?_
      refine (AllReadyH.cons rfl (fun K hK => ?_) AllReadyH.nil)
      go_simp
      with_reducible refine (cmd_concat3 _ 3 _ _ _ 3 cp 2 [intAt q 4, intAt q 5, flagAt q 6] [wordAt q (4 + 3), wordAt q (4 + 4), wordAt q (4 + 5), wordAt q (4 + 6), wordAt q (4 + 7), wordAt q (4 + 8), wordAt q (4 + 9), wordAt q (4 + 10), wordAt q (4 + 11)] [intAt q 16, intAt q 17] _ (Rb4).lt ((Rb4).get 0 rfl) ((Rb4).get 1 rfl) ((Rb4).get 2 rfl) (PieceAt.blk (Sb4) rfl (by simp [wordAt, intAt, flagAt, Value.oneCell'])) (Ph4) (PieceAt.blk (Tb4) rfl (by simp [wordAt, intAt, flagAt, Value.oneCell'])) (by simp) (by simp) (by simp)).mono ?_
      rintro e w5 ⟨v5, rfl, hO, hc5⟩
      have hO2 := own_less hO (Below.size (hb4))
      have hb5 := below_next (hb4) hc5
      try go_wp2_with fail
      refine hK.out _ _ (KE.out _ hb5) (fun hH5 => ?_)
      clear hK K hH
      have hH := hH5
      clear hH5
      try simp only [Act.put, List.getElem_toArray, List.getElem_cons_succ, List.getElem_cons_zero, List.setIfInBounds_toArray, List.set_cons_zero, List.set_cons_succ]
      first | (refine wpAnyH_take (i := 26) (v := undef) rfl ?_ ?_ ?_ (fun _ _ _ h => h) ?_ ?_ ?_; kernel_rfl; kernel_rfl; kernel_rfl; exact Or.inr ⟨by rfl, rfl⟩; exact hH) | (refine wpAnyH_take (i := 26) (v := ?_) rfl ?_ ?_ ?_ (fun _ _ _ h => h) ?_ ?_ ?_; rotate_left; kernel_rfl; kernel_rfl; kernel_rfl; (focus (refine Or.inl ⟨by rfl, ?_⟩; intro w' hSw; (try dsimp only at hSw); go_simp)); exact hH) | (refine wpAnyH_take (i := 26) (v := ?_) rfl ?_ ?_ ?_ (fun _ _ _ h => h) ?_ ?_ ?_; rotate_left; kernel_rfl; kernel_rfl; kernel_rfl; (focus (refine Or.inl ⟨by rfl, ?_⟩; intro w' hSw; (try dsimp only at hSw); go_simp; with_reducible rfl)); exact hH)
      try simp only [Act.put, List.getElem_toArray, List.getElem_cons_succ, List.getElem_cons_zero, List.setIfInBounds_toArray, List.set_cons_zero, List.set_cons_succ]
      refine wpAnyH_done (by kernel_rfl) ?_ _
      refine NoPanic.normal ?_
      go_wp2_with fail
      go_ret
      obtain ⟨rfl, hb0⟩ := HB0.out
      have h5 := hb0.trans hb5
      exact ⟨_, by simp, hO2, h5⟩
    · skip
      go_simp
      have NEST6 : W0.heap.size ≠ W0.heap.size + 1 := Nat.ne_of_lt (Nat.lt_of_lt_of_eq (Blk.lt Sb1) (by simp))
      have Sb6 := Blk.alloc Sb1 (.cells #[.iface 76 (.pointer (some ⟨q, 16, none⟩)), .iface 76 (.pointer (some ⟨q, 17, none⟩))] 20)
      have Tb6 : Blk ((W0.drew.alloc (.cells #[.iface 76 (.pointer (some ⟨q, 4, none⟩)), .iface 76 (.pointer (some ⟨q, 5, none⟩)), .iface 79 (.pointer (some ⟨q, 6, none⟩))] 20)).alloc (.cells #[.iface 76 (.pointer (some ⟨q, 16, none⟩)), .iface 76 (.pointer (some ⟨q, 17, none⟩))] 20)) (W0.heap.size + 1) 20 #[.iface 76 (.pointer (some ⟨q, 16, none⟩)), .iface 76 (.pointer (some ⟨q, 17, none⟩))] := Blk.new_at (by simp)
      have QGT : W0.heap.size ≤ W0.heap.size + 1 := Nat.le_trans (Below.size (hb1)) (Nat.le_of_eq (by simp))
      have hb6 := Below.alloc (hb1) (Below.size (hb1)) (.cells #[.iface 76 (.pointer (some ⟨q, 16, none⟩)), .iface 76 (.pointer (some ⟨q, 17, none⟩))] 20)
      refine hK.out _ _ (KE.out _ hb6) (fun hH6 => ?_)
      clear hK K hH
      have hH := hH6
      clear hH6
      try simp only [Act.put, List.getElem_toArray, List.getElem_cons_succ, List.getElem_cons_zero, List.setIfInBounds_toArray, List.set_cons_zero, List.set_cons_succ]
      refine wpAnyH_ready (rs := [14]) (by kernel_rfl) (by simp) ?_
      refine (AllReadyH.cons rfl (fun K hK => ?_) AllReadyH.nil)
      go_simp
      with_reducible refine (cmd_curves q 4 _).mono ?_
      rintro e w7 ⟨v7, rfl, hO7, hc7⟩
      obtain ⟨bp, cp, rfl, hBp, hPp⟩ := PieceAt.own hO7 (by omega) (by simp [wordAt, Value.oneCell'])
      have hb7 := below_next (hb6) hc7
      try go_wp2_with fail
      have Sb7 := Blk.next (Sb6) hc7
      have Tb7 := Blk.next (Tb6) hc7
      have Ph7 := hPp
      refine hK.out _ _ (KE.out _ hb7) (fun hH7 => ?_)
      clear hK K hH
      have hH := hH7
      clear hH7
      try simp only [Act.put, List.getElem_toArray, List.getElem_cons_succ, List.getElem_cons_zero, List.setIfInBounds_toArray, List.set_cons_zero, List.set_cons_succ]
      refine wpAnyH_ready (rs := [24]) (by kernel_rfl) (by simp) ?_
      refine (AllReadyH.cons rfl (fun K hK => ?_) AllReadyH.nil)
      go_simp
      have Ph8 := (Ph7).next ((Below.refl (w7).heap.size (w7)).alloc (Nat.le_refl _) (.cells #[.slice (some ⟨(W0.heap.size), 0, none⟩) 3 3, .slice (some ⟨bp, 0, none⟩) 9 cp, .slice (some ⟨(W0.heap.size + 1), 0, none⟩) 2 2] 55))
      have NESR8 : W0.heap.size ≠ w7.heap.size := Nat.ne_of_lt (Nat.lt_of_lt_of_eq (Blk.lt Sb7) (by simp))
      have NETR8 : W0.heap.size + 1 ≠ w7.heap.size := Nat.ne_of_lt (Nat.lt_of_lt_of_eq (Blk.lt Tb7) (by simp))
      have Sb8 := Blk.alloc Sb7 (.cells #[.slice (some ⟨(W0.heap.size), 0, none⟩) 3 3, .slice (some ⟨bp, 0, none⟩) 9 cp, .slice (some ⟨(W0.heap.size + 1), 0, none⟩) 2 2] 55)
      have Tb8 := Blk.alloc Tb7 (.cells #[.slice (some ⟨(W0.heap.size), 0, none⟩) 3 3, .slice (some ⟨bp, 0, none⟩) 9 cp, .slice (some ⟨(W0.heap.size + 1), 0, none⟩) 2 2] 55)
      have Rb8 : Blk (w7.alloc (.cells #[.slice (some ⟨(W0.heap.size), 0, none⟩) 3 3, .slice (some ⟨bp, 0, none⟩) 9 cp, .slice (some ⟨(W0.heap.size + 1), 0, none⟩) 2 2] 55)) (w7.heap.size) 55 #[.slice (some ⟨(W0.heap.size), 0, none⟩) 3 3, .slice (some ⟨bp, 0, none⟩) 9 cp, .slice (some ⟨(W0.heap.size + 1), 0, none⟩) 2 2] := Blk.new_at (by simp)
      have QGR : W0.heap.size ≤ w7.heap.size := Nat.le_trans (Below.size (hb7)) (Nat.le_of_eq (by simp))
      have hb8 := Below.alloc (hb7) (Below.size (hb7)) (.cells #[.slice (some ⟨(W0.heap.size), 0, none⟩) 3 3, .slice (some ⟨bp, 0, none⟩) 9 cp, .slice (some ⟨(W0.heap.size + 1), 0, none⟩) 2 2] 55)
      refine hK.out _ _ (KE.out _ hb8) (fun hH8 => ?_)
      clear hK K hH
      have hH := hH8
      clear hH8
      try simp only [Act.put, List.getElem_toArray, List.getElem_cons_succ, List.getElem_cons_zero, List.setIfInBounds_toArray, List.set_cons_zero, List.set_cons_succ]
      refine wpAnyH_ready (rs := [25]) (by kernel_rfl) (by simp) ?_
      refine (AllReadyH.cons rfl (fun K hK => ?_) AllReadyH.nil)
      go_simp
      with_reducible refine (cmd_concat3 _ 3 _ _ _ 3 cp 2 [intAt q 4, intAt q 5, flagAt q 6] [wordAt q (4 + 3), wordAt q (4 + 4), wordAt q (4 + 5), wordAt q (4 + 6), wordAt q (4 + 7), wordAt q (4 + 8), wordAt q (4 + 9), wordAt q (4 + 10), wordAt q (4 + 11)] [intAt q 16, intAt q 17] _ (Rb8).lt ((Rb8).get 0 rfl) ((Rb8).get 1 rfl) ((Rb8).get 2 rfl) (PieceAt.blk (Sb8) rfl (by simp [wordAt, intAt, flagAt, Value.oneCell'])) (Ph8) (PieceAt.blk (Tb8) rfl (by simp [wordAt, intAt, flagAt, Value.oneCell'])) (by simp) (by simp) (by simp)).mono ?_
      rintro e w9 ⟨v9, rfl, hO, hc9⟩
      have hO2 := own_less hO (Below.size (hb8))
      have hb9 := below_next (hb8) hc9
      try go_wp2_with fail
      refine hK.out _ _ (KE.out _ hb9) (fun hH9 => ?_)
      clear hK K hH
      have hH := hH9
      clear hH9
      try simp only [Act.put, List.getElem_toArray, List.getElem_cons_succ, List.getElem_cons_zero, List.setIfInBounds_toArray, List.set_cons_zero, List.set_cons_succ]
      first | (refine wpAnyH_take (i := 26) (v := undef) rfl ?_ ?_ ?_ (fun _ _ _ h => h) ?_ ?_ ?_; kernel_rfl; kernel_rfl; kernel_rfl; exact Or.inr ⟨by rfl, rfl⟩; exact hH) | (refine wpAnyH_take (i := 26) (v := ?_) rfl ?_ ?_ ?_ (fun _ _ _ h => h) ?_ ?_ ?_; rotate_left; kernel_rfl; kernel_rfl; kernel_rfl; (focus (refine Or.inl ⟨by rfl, ?_⟩; intro w' hSw; (try dsimp only at hSw); go_simp)); exact hH) | (refine wpAnyH_take (i := 26) (v := ?_) rfl ?_ ?_ ?_ (fun _ _ _ h => h) ?_ ?_ ?_; rotate_left; kernel_rfl; kernel_rfl; kernel_rfl; (focus (refine Or.inl ⟨by rfl, ?_⟩; intro w' hSw; (try dsimp only at hSw); go_simp; with_reducible rfl)); exact hH)
      try simp only [Act.put, List.getElem_toArray, List.getElem_cons_succ, List.getElem_cons_zero, List.setIfInBounds_toArray, List.set_cons_zero, List.set_cons_succ]
      refine wpAnyH_done (by kernel_rfl) ?_ _
      refine NoPanic.normal ?_
      go_wp2_with fail
      go_ret
      obtain ⟨rfl, hb0⟩ := HB0.out
      have h5 := hb0.trans hb9
      exact ⟨_, by simp, hO2, h5⟩
  · skip
    go_simp
    with_reducible refine (cmd_curves q 4 _).mono ?_
    rintro e w10 ⟨v10, rfl, hO10, hc10⟩
    obtain ⟨bp, cp, rfl, hBp, hPp⟩ := PieceAt.own hO10 (by omega) (by simp [wordAt, Value.oneCell'])
    have hb10 := below_next (hbR) hc10
    try go_wp2_with fail
    have Ph10 := hPp
    refine hK.out _ _ (KE.out _ hb10) (fun hH10 => ?_)
    clear hK K hH
    have hH := hH10
    clear hH10
    try simp only [Act.put, List.getElem_toArray, List.getElem_cons_succ, List.getElem_cons_zero, List.setIfInBounds_toArray, List.set_cons_zero, List.set_cons_succ]
    refine wpAnyH_ready (rs := [12, 23]) (by kernel_rfl) (by simp) ?_
    refine (AllReadyH.cons rfl (fun K hK => ?_) (AllReadyH.cons rfl (fun K hK => ?_) AllReadyH.nil))
    · skip
      go_simp
      have Ph11 := (Ph10).next ((Below.refl (w10).heap.size (w10)).alloc (Nat.le_refl _) (.cells #[.iface 76 (.pointer (some ⟨q, 4, none⟩)), .iface 76 (.pointer (some ⟨q, 5, none⟩)), .iface 79 (.pointer (some ⟨q, 6, none⟩))] 20))
      have Sb11 : Blk (w10.alloc (.cells #[.iface 76 (.pointer (some ⟨q, 4, none⟩)), .iface 76 (.pointer (some ⟨q, 5, none⟩)), .iface 79 (.pointer (some ⟨q, 6, none⟩))] 20)) (w10.heap.size) 20 #[.iface 76 (.pointer (some ⟨q, 4, none⟩)), .iface 76 (.pointer (some ⟨q, 5, none⟩)), .iface 79 (.pointer (some ⟨q, 6, none⟩))] := Blk.new_at (by simp)
      have QGS : W0.heap.size ≤ w10.heap.size := Nat.le_trans (Below.size (hb10)) (Nat.le_of_eq (by simp))
      have hb11 := Below.alloc (hb10) (Below.size (hb10)) (.cells #[.iface 76 (.pointer (some ⟨q, 4, none⟩)), .iface 76 (.pointer (some ⟨q, 5, none⟩)), .iface 79 (.pointer (some ⟨q, 6, none⟩))] 20)
      refine hK.out _ _ (KE.out _ hb11) (fun hH11 => ?_)
      clear hK K hH
      have hH := hH11
      clear hH11
      try simp only [Act.put, List.getElem_toArray, List.getElem_cons_succ, List.getElem_cons_zero, List.setIfInBounds_toArray, List.set_cons_zero, List.set_cons_succ]
      refine wpAnyH_ready (rs := [23]) (by kernel_rfl) (by simp) ?_
      refine (AllReadyH.cons rfl (fun K hK => ?_) AllReadyH.nil)
      go_simp
      have Ph12 := (Ph11).next ((Below.refl ((w10.alloc (.cells #[.iface 76 (.pointer (some ⟨q, 4, none⟩)), .iface 76 (.pointer (some ⟨q, 5, none⟩)), .iface 79 (.pointer (some ⟨q, 6, none⟩))] 20))).heap.size ((w10.alloc (.cells #[.iface 76 (.pointer (some ⟨q, 4, none⟩)), .iface 76 (.pointer (some ⟨q, 5, none⟩)), .iface 79 (.pointer (some ⟨q, 6, none⟩))] 20)))).alloc (Nat.le_refl _) (.cells #[.iface 76 (.pointer (some ⟨q, 16, none⟩)), .iface 76 (.pointer (some ⟨q, 17, none⟩))] 20))
      have NEST12 : w10.heap.size ≠ w10.heap.size + 1 := Nat.ne_of_lt (Nat.lt_of_lt_of_eq (Blk.lt Sb11) (by simp))
      have Sb12 := Blk.alloc Sb11 (.cells #[.iface 76 (.pointer (some ⟨q, 16, none⟩)), .iface 76 (.pointer (some ⟨q, 17, none⟩))] 20)
      have Tb12 : Blk ((w10.alloc (.cells #[.iface 76 (.pointer (some ⟨q, 4, none⟩)), .iface 76 (.pointer (some ⟨q, 5, none⟩)), .iface 79 (.pointer (some ⟨q, 6, none⟩))] 20)).alloc (.cells #[.iface 76 (.pointer (some ⟨q, 16, none⟩)), .iface 76 (.pointer (some ⟨q, 17, none⟩))] 20)) (w10.heap.size + 1) 20 #[.iface 76 (.pointer (some ⟨q, 16, none⟩)), .iface 76 (.pointer (some ⟨q, 17, none⟩))] := Blk.new_at (by simp)
      have QGT : W0.heap.size ≤ w10.heap.size + 1 := Nat.le_trans (Below.size (hb11)) (Nat.le_of_eq (by simp))
      have hb12 := Below.alloc (hb11) (Below.size (hb11)) (.cells #[.iface 76 (.pointer (some ⟨q, 16, none⟩)), .iface 76 (.pointer (some ⟨q, 17, none⟩))] 20)
      refine hK.out _ _ (KE.out _ hb12) (fun hH12 => ?_)
      clear hK K hH
      have hH := hH12
      clear hH12
      try simp only [Act.put, List.getElem_toArray, List.getElem_cons_succ, List.getElem_cons_zero, List.setIfInBounds_toArray, List.set_cons_zero, List.set_cons_succ]
      refine wpAnyH_ready (rs := [24]) (by kernel_rfl) (by simp) ?_
      refine (AllReadyH.cons rfl (fun K hK => ?_) AllReadyH.nil)
      go_simp
      have Ph13 := (Ph12).next ((Below.refl (((w10.alloc (.cells #[.iface 76 (.pointer (some ⟨q, 4, none⟩)), .iface 76 (.pointer (some ⟨q, 5, none⟩)), .iface 79 (.pointer (some ⟨q, 6, none⟩))] 20)).alloc (.cells #[.iface 76 (.pointer (some ⟨q, 16, none⟩)), .iface 76 (.pointer (some ⟨q, 17, none⟩))] 20))).heap.size (((w10.alloc (.cells #[.iface 76 (.pointer (some ⟨q, 4, none⟩)), .iface 76 (.pointer (some ⟨q, 5, none⟩)), .iface 79 (.pointer (some ⟨q, 6, none⟩))] 20)).alloc (.cells #[.iface 76 (.pointer (some ⟨q, 16, none⟩)), .iface 76 (.pointer (some ⟨q, 17, none⟩))] 20)))).alloc (Nat.le_refl _) (.cells #[.slice (some ⟨(w10.heap.size), 0, none⟩) 3 3, .slice (some ⟨bp, 0, none⟩) 9 cp, .slice (some ⟨(w10.heap.size + 1), 0, none⟩) 2 2] 55))
      have NESR13 : w10.heap.size ≠ w10.heap.size + 1 + 1 := Nat.ne_of_lt (Nat.lt_of_lt_of_eq (Blk.lt Sb12) (by simp))
      have NETR13 : w10.heap.size + 1 ≠ w10.heap.size + 1 + 1 := Nat.ne_of_lt (Nat.lt_of_lt_of_eq (Blk.lt Tb12) (by simp))
      have Sb13 := Blk.alloc Sb12 (.cells #[.slice (some ⟨(w10.heap.size), 0, none⟩) 3 3, .slice (some ⟨bp, 0, none⟩) 9 cp, .slice (some ⟨(w10.heap.size + 1), 0, none⟩) 2 2] 55)
      have Tb13 := Blk.alloc Tb12 (.cells #[.slice (some ⟨(w10.heap.size), 0, none⟩) 3 3, .slice (some ⟨bp, 0, none⟩) 9 cp, .slice (some ⟨(w10.heap.size + 1), 0, none⟩) 2 2] 55)
      have Rb13 : Blk (((w10.alloc (.cells #[.iface 76 (.pointer (some ⟨q, 4, none⟩)), .iface 76 (.pointer (some ⟨q, 5, none⟩)), .iface 79 (.pointer (some ⟨q, 6, none⟩))] 20)).alloc (.cells #[.iface 76 (.pointer (some ⟨q, 16, none⟩)), .iface 76 (.pointer (some ⟨q, 17, none⟩))] 20)).alloc (.cells #[.slice (some ⟨(w10.heap.size), 0, none⟩) 3 3, .slice (some ⟨bp, 0, none⟩) 9 cp, .slice (some ⟨(w10.heap.size + 1), 0, none⟩) 2 2] 55)) (w10.heap.size + 1 + 1) 55 #[.slice (some ⟨(w10.heap.size), 0, none⟩) 3 3, .slice (some ⟨bp, 0, none⟩) 9 cp, .slice (some ⟨(w10.heap.size + 1), 0, none⟩) 2 2] := Blk.new_at (by simp)
      have QGR : W0.heap.size ≤ w10.heap.size + 1 + 1 := Nat.le_trans (Below.size (hb12)) (Nat.le_of_eq (by simp))
      have hb13 := Below.alloc (hb12) (Below.size (hb12)) (.cells #[.slice (some ⟨(w10.heap.size), 0, none⟩) 3 3, .slice (some ⟨bp, 0, none⟩) 9 cp, .slice (some ⟨(w10.heap.size + 1), 0, none⟩) 2 2] 55)
      refine hK.out _ _ (KE.out _ hb13) (fun hH13 => ?_)
      clear hK K hH
      have hH := hH13
      clear hH13
      try simp only [Act.put, List.getElem_toArray, List.getElem_cons_succ, List.getElem_cons_zero, List.setIfInBounds_toArray, List.set_cons_zero, List.set_cons_succ]
      refine wpAnyH_ready (rs := [25]) (by kernel_rfl) (by simp) ?_
      refine (AllReadyH.cons rfl (fun K hK => ?_) AllReadyH.nil)
      go_simp
      with_reducible refine (cmd_concat3 _ 3 _ _ _ 3 cp 2 [intAt q 4, intAt q 5, flagAt q 6] [wordAt q (4 + 3), wordAt q (4 + 4), wordAt q (4 + 5), wordAt q (4 + 6), wordAt q (4 + 7), wordAt q (4 + 8), wordAt q (4 + 9), wordAt q (4 + 10), wordAt q (4 + 11)] [intAt q 16, intAt q 17] _ (Rb13).lt ((Rb13).get 0 rfl) ((Rb13).get 1 rfl) ((Rb13).get 2 rfl) (PieceAt.blk (Sb13) rfl (by simp [wordAt, intAt, flagAt, Value.oneCell'])) (Ph13) (PieceAt.blk (Tb13) rfl (by simp [wordAt, intAt, flagAt, Value.oneCell'])) (by simp) (by simp) (by simp)).mono ?_
      rintro e w14 ⟨v14, rfl, hO, hc14⟩
      have hO2 := own_less hO (Below.size (hb13))
      have hb14 := below_next (hb13) hc14
      try go_wp2_with fail
      refine hK.out _ _ (KE.out _ hb14) (fun hH14 => ?_)
      clear hK K hH
      have hH := hH14
      clear hH14
      try simp only [Act.put, List.getElem_toArray, List.getElem_cons_succ, List.getElem_cons_zero, List.setIfInBounds_toArray, List.set_cons_zero, List.set_cons_succ]
      first | (refine wpAnyH_take (i := 26) (v := undef) rfl ?_ ?_ ?_ (fun _ _ _ h => h) ?_ ?_ ?_; kernel_rfl; kernel_rfl; kernel_rfl; exact Or.inr ⟨by rfl, rfl⟩; exact hH) | (refine wpAnyH_take (i := 26) (v := ?_) rfl ?_ ?_ ?_ (fun _ _ _ h => h) ?_ ?_ ?_; rotate_left; kernel_rfl; kernel_rfl; kernel_rfl; (focus (refine Or.inl ⟨by rfl, ?_⟩; intro w' hSw; (try dsimp only at hSw); go_simp)); exact hH) | (refine wpAnyH_take (i := 26) (v := ?_) rfl ?_ ?_ ?_ (fun _ _ _ h => h) ?_ ?_ ?_; rotate_left; kernel_rfl; kernel_rfl; kernel_rfl; (focus (refine Or.inl ⟨by rfl, ?_⟩; intro w' hSw; (try dsimp only at hSw); go_simp; with_reducible rfl)); exact hH)
      try simp only [Act.put, List.getElem_toArray, List.getElem_cons_succ, List.getElem_cons_zero, List.setIfInBounds_toArray, List.set_cons_zero, List.set_cons_succ]
      refine wpAnyH_done (by kernel_rfl) ?_ _
      refine NoPanic.normal ?_
      go_wp2_with fail
      go_ret
      obtain ⟨rfl, hb0⟩ := HB0.out
      have h5 := hb0.trans hb14
      exact ⟨_, by simp, hO2, h5⟩
    · skip
      go_simp
      have Ph15 := (Ph10).next ((Below.refl (w10).heap.size (w10)).alloc (Nat.le_refl _) (.cells #[.iface 76 (.pointer (some ⟨q, 16, none⟩)), .iface 76 (.pointer (some ⟨q, 17, none⟩))] 20))
      have Tb15 : Blk (w10.alloc (.cells #[.iface 76 (.pointer (some ⟨q, 16, none⟩)), .iface 76 (.pointer (some ⟨q, 17, none⟩))] 20)) (w10.heap.size) 20 #[.iface 76 (.pointer (some ⟨q, 16, none⟩)), .iface 76 (.pointer (some ⟨q, 17, none⟩))] := Blk.new_at (by simp)
      have QGT : W0.heap.size ≤ w10.heap.size := Nat.le_trans (Below.size (hb10)) (Nat.le_of_eq (by simp))
      have hb15 := Below.alloc (hb10) (Below.size (hb10)) (.cells #[.iface 76 (.pointer (some ⟨q, 16, none⟩)), .iface 76 (.pointer (some ⟨q, 17, none⟩))] 20)
      refine hK.out _ _ (KE.out _ hb15) (fun hH15 => ?_)
      clear hK K hH
      have hH := hH15
      clear hH15
      try simp only [Act.put, List.getElem_toArray, List.getElem_cons_succ, List.getElem_cons_zero, List.setIfInBounds_toArray, List.set_cons_zero, List.set_cons_succ]
      refine wpAnyH_ready (rs := [12]) (by kernel_rfl) (by simp) ?_
      refine (AllReadyH.cons rfl (fun K hK => ?_) AllReadyH.nil)
      go_simp
      have Ph16 := (Ph15).next ((Below.refl ((w10.alloc (.cells #[.iface 76 (.pointer (some ⟨q, 16, none⟩)), .iface 76 (.pointer (some ⟨q, 17, none⟩))] 20))).heap.size ((w10.alloc (.cells #[.iface 76 (.pointer (some ⟨q, 16, none⟩)), .iface 76 (.pointer (some ⟨q, 17, none⟩))] 20)))).alloc (Nat.le_refl _) (.cells #[.iface 76 (.pointer (some ⟨q, 4, none⟩)), .iface 76 (.pointer (some ⟨q, 5, none⟩)), .iface 79 (.pointer (some ⟨q, 6, none⟩))] 20))
      have NETS16 : w10.heap.size ≠ w10.heap.size + 1 := Nat.ne_of_lt (Nat.lt_of_lt_of_eq (Blk.lt Tb15) (by simp))
      have Tb16 := Blk.alloc Tb15 (.cells #[.iface 76 (.pointer (some ⟨q, 4, none⟩)), .iface 76 (.pointer (some ⟨q, 5, none⟩)), .iface 79 (.pointer (some ⟨q, 6, none⟩))] 20)
      have Sb16 : Blk ((w10.alloc (.cells #[.iface 76 (.pointer (some ⟨q, 16, none⟩)), .iface 76 (.pointer (some ⟨q, 17, none⟩))] 20)).alloc (.cells #[.iface 76 (.pointer (some ⟨q, 4, none⟩)), .iface 76 (.pointer (some ⟨q, 5, none⟩)), .iface 79 (.pointer (some ⟨q, 6, none⟩))] 20)) (w10.heap.size + 1) 20 #[.iface 76 (.pointer (some ⟨q, 4, none⟩)), .iface 76 (.pointer (some ⟨q, 5, none⟩)), .iface 79 (.pointer (some ⟨q, 6, none⟩))] := Blk.new_at (by simp)
      have QGS : W0.heap.size ≤ w10.heap.size + 1 := Nat.le_trans (Below.size (hb15)) (Nat.le_of_eq (by simp))
      have hb16 := Below.alloc (hb15) (Below.size (hb15)) (.cells #[.iface 76 (.pointer (some ⟨q, 4, none⟩)), .iface 76 (.pointer (some ⟨q, 5, none⟩)), .iface 79 (.pointer (some ⟨q, 6, none⟩))] 20)
      refine hK.out _ _ (KE.out _ hb16) (fun hH16 => ?_)
      clear hK K hH
      have hH := hH16
      clear hH16
      try simp only [Act.put, List.getElem_toArray, List.getElem_cons_succ, List.getElem_cons_zero, List.setIfInBounds_toArray, List.set_cons_zero, List.set_cons_succ]
      refine wpAnyH_ready (rs := [24]) (by kernel_rfl) (by simp) ?_
      refine (AllReadyH.cons rfl (fun K hK => ?_) AllReadyH.nil)
      go_simp
      have Ph17 := (Ph16).next ((Below.refl (((w10.alloc (.cells #[.iface 76 (.pointer (some ⟨q, 16, none⟩)), .iface 76 (.pointer (some ⟨q, 17, none⟩))] 20)).alloc (.cells #[.iface 76 (.pointer (some ⟨q, 4, none⟩)), .iface 76 (.pointer (some ⟨q, 5, none⟩)), .iface 79 (.pointer (some ⟨q, 6, none⟩))] 20))).heap.size (((w10.alloc (.cells #[.iface 76 (.pointer (some ⟨q, 16, none⟩)), .iface 76 (.pointer (some ⟨q, 17, none⟩))] 20)).alloc (.cells #[.iface 76 (.pointer (some ⟨q, 4, none⟩)), .iface 76 (.pointer (some ⟨q, 5, none⟩)), .iface 79 (.pointer (some ⟨q, 6, none⟩))] 20)))).alloc (Nat.le_refl _) (.cells #[.slice (some ⟨(w10.heap.size + 1), 0, none⟩) 3 3, .slice (some ⟨bp, 0, none⟩) 9 cp, .slice (some ⟨(w10.heap.size), 0, none⟩) 2 2] 55))
      have NETR17 : w10.heap.size ≠ w10.heap.size + 1 + 1 := Nat.ne_of_lt (Nat.lt_of_lt_of_eq (Blk.lt Tb16) (by simp))
      have NESR17 : w10.heap.size + 1 ≠ w10.heap.size + 1 + 1 := Nat.ne_of_lt (Nat.lt_of_lt_of_eq (Blk.lt Sb16) (by simp))
      have Tb17 := Blk.alloc Tb16 (.cells #[.slice (some ⟨(w10.heap.size + 1), 0, none⟩) 3 3, .slice (some ⟨bp, 0, none⟩) 9 cp, .slice (some ⟨(w10.heap.size), 0, none⟩) 2 2] 55)
      have Sb17 := Blk.alloc Sb16 (.cells #[.slice (some ⟨(w10.heap.size + 1), 0, none⟩) 3 3, .slice (some ⟨bp, 0, none⟩) 9 cp, .slice (some ⟨(w10.heap.size), 0, none⟩) 2 2] 55)
      have Rb17 : Blk (((w10.alloc (.cells #[.iface 76 (.pointer (some ⟨q, 16, none⟩)), .iface 76 (.pointer (some ⟨q, 17, none⟩))] 20)).alloc (.cells #[.iface 76 (.pointer (some ⟨q, 4, none⟩)), .iface 76 (.pointer (some ⟨q, 5, none⟩)), .iface 79 (.pointer (some ⟨q, 6, none⟩))] 20)).alloc (.cells #[.slice (some ⟨(w10.heap.size + 1), 0, none⟩) 3 3, .slice (some ⟨bp, 0, none⟩) 9 cp, .slice (some ⟨(w10.heap.size), 0, none⟩) 2 2] 55)) (w10.heap.size + 1 + 1) 55 #[.slice (some ⟨(w10.heap.size + 1), 0, none⟩) 3 3, .slice (some ⟨bp, 0, none⟩) 9 cp, .slice (some ⟨(w10.heap.size), 0, none⟩) 2 2] := Blk.new_at (by simp)
      have QGR : W0.heap.size ≤ w10.heap.size + 1 + 1 := Nat.le_trans (Below.size (hb16)) (Nat.le_of_eq (by simp))
      have hb17 := Below.alloc (hb16) (Below.size (hb16)) (.cells #[.slice (some ⟨(w10.heap.size + 1), 0, none⟩) 3 3, .slice (some ⟨bp, 0, none⟩) 9 cp, .slice (some ⟨(w10.heap.size), 0, none⟩) 2 2] 55)
      refine hK.out _ _ (KE.out _ hb17) (fun hH17 => ?_)
      clear hK K hH
      have hH := hH17
      clear hH17
      try simp only [Act.put, List.getElem_toArray, List.getElem_cons_succ, List.getElem_cons_zero, List.setIfInBounds_toArray, List.set_cons_zero, List.set_cons_succ]
      refine wpAnyH_ready (rs := [25]) (by kernel_rfl) (by simp) ?_
      refine (AllReadyH.cons rfl (fun K hK => ?_) AllReadyH.nil)
      go_simp
      with_reducible refine (cmd_concat3 _ 3 _ _ _ 3 cp 2 [intAt q 4, intAt q 5, flagAt q 6] [wordAt q (4 + 3), wordAt q (4 + 4), wordAt q (4 + 5), wordAt q (4 + 6), wordAt q (4 + 7), wordAt q (4 + 8), wordAt q (4 + 9), wordAt q (4 + 10), wordAt q (4 + 11)] [intAt q 16, intAt q 17] _ (Rb17).lt ((Rb17).get 0 rfl) ((Rb17).get 1 rfl) ((Rb17).get 2 rfl) (PieceAt.blk (Sb17) rfl (by simp [wordAt, intAt, flagAt, Value.oneCell'])) (Ph17) (PieceAt.blk (Tb17) rfl (by simp [wordAt, intAt, flagAt, Value.oneCell'])) (by simp) (by simp) (by simp)).mono ?_
      rintro e w18 ⟨v18, rfl, hO, hc18⟩
      have hO2 := own_less hO (Below.size (hb17))
      have hb18 := below_next (hb17) hc18
      try go_wp2_with fail
      refine hK.out _ _ (KE.out _ hb18) (fun hH18 => ?_)
      clear hK K hH
      have hH := hH18
      clear hH18
      try simp only [Act.put, List.getElem_toArray, List.getElem_cons_succ, List.getElem_cons_zero, List.setIfInBounds_toArray, List.set_cons_zero, List.set_cons_succ]
      first | (refine wpAnyH_take (i := 26) (v := undef) rfl ?_ ?_ ?_ (fun _ _ _ h => h) ?_ ?_ ?_; kernel_rfl; kernel_rfl; kernel_rfl; exact Or.inr ⟨by rfl, rfl⟩; exact hH) | (refine wpAnyH_take (i := 26) (v := ?_) rfl ?_ ?_ ?_ (fun _ _ _ h => h) ?_ ?_ ?_; rotate_left; kernel_rfl; kernel_rfl; kernel_rfl; (focus (refine Or.inl ⟨by rfl, ?_⟩; intro w' hSw; (try dsimp only at hSw); go_simp)); exact hH) | (refine wpAnyH_take (i := 26) (v := ?_) rfl ?_ ?_ ?_ (fun _ _ _ h => h) ?_ ?_ ?_; rotate_left; kernel_rfl; kernel_rfl; kernel_rfl; (focus (refine Or.inl ⟨by rfl, ?_⟩; intro w' hSw; (try dsimp only at hSw); go_simp; with_reducible rfl)); exact hH)
      try simp only [Act.put, List.getElem_toArray, List.getElem_cons_succ, List.getElem_cons_zero, List.setIfInBounds_toArray, List.set_cons_zero, List.set_cons_succ]
      refine wpAnyH_done (by kernel_rfl) ?_ _
      refine NoPanic.normal ?_
      go_wp2_with fail
      go_ret
      obtain ⟨rfl, hb0⟩ := HB0.out
      have h5 := hb0.trans hb18
      exact ⟨_, by simp, hO2, h5⟩
  · skip
    go_simp
    have Tb19 : Blk (W0.drew.alloc (.cells #[.iface 76 (.pointer (some ⟨q, 16, none⟩)), .iface 76 (.pointer (some ⟨q, 17, none⟩))] 20)) (W0.heap.size) 20 #[.iface 76 (.pointer (some ⟨q, 16, none⟩)), .iface 76 (.pointer (some ⟨q, 17, none⟩))] := Blk.new_at (by simp)
    have QGT : W0.heap.size ≤ W0.heap.size := Nat.le_trans (Below.size (hbR)) (Nat.le_of_eq (by simp))
    have hb19 := Below.alloc (hbR) (Below.size (hbR)) (.cells #[.iface 76 (.pointer (some ⟨q, 16, none⟩)), .iface 76 (.pointer (some ⟨q, 17, none⟩))] 20)
    refine hK.out _ _ (KE.out _ hb19) (fun hH19 => ?_)
    clear hK K hH
    have hH := hH19
    clear hH19
    try simp only [Act.put, List.getElem_toArray, List.getElem_cons_succ, List.getElem_cons_zero, List.setIfInBounds_toArray, List.set_cons_zero, List.set_cons_succ]
    refine wpAnyH_ready (rs := [12, 14]) (by kernel_rfl) (by simp) ?_
    refine (AllReadyH.cons rfl (fun K hK => ?_) (AllReadyH.cons rfl (fun K hK => ?_) AllReadyH.nil))
    · skip
      go_simp
      have NETS20 : W0.heap.size ≠ W0.heap.size + 1 := Nat.ne_of_lt (Nat.lt_of_lt_of_eq (Blk.lt Tb19) (by simp))
      have Tb20 := Blk.alloc Tb19 (.cells #[.iface 76 (.pointer (some ⟨q, 4, none⟩)), .iface 76 (.pointer (some ⟨q, 5, none⟩)), .iface 79 (.pointer (some ⟨q, 6, none⟩))] 20)
      have Sb20 : Blk ((W0.drew.alloc (.cells #[.iface 76 (.pointer (some ⟨q, 16, none⟩)), .iface 76 (.pointer (some ⟨q, 17, none⟩))] 20)).alloc (.cells #[.iface 76 (.pointer (some ⟨q, 4, none⟩)), .iface 76 (.pointer (some ⟨q, 5, none⟩)), .iface 79 (.pointer (some ⟨q, 6, none⟩))] 20)) (W0.heap.size + 1) 20 #[.iface 76 (.pointer (some ⟨q, 4, none⟩)), .iface 76 (.pointer (some ⟨q, 5, none⟩)), .iface 79 (.pointer (some ⟨q, 6, none⟩))] := Blk.new_at (by simp)
      have QGS : W0.heap.size ≤ W0.heap.size + 1 := Nat.le_trans (Below.size (hb19)) (Nat.le_of_eq (by simp))
      have hb20 := Below.alloc (hb19) (Below.size (hb19)) (.cells #[.iface 76 (.pointer (some ⟨q, 4, none⟩)), .iface 76 (.pointer (some ⟨q, 5, none⟩)), .iface 79 (.pointer (some ⟨q, 6, none⟩))] 20)
      refine hK.out _ _ (KE.out _ hb20) (fun hH20 => ?_)
      clear hK K hH
      have hH := hH20
      clear hH20
      try simp only [Act.put, List.getElem_toArray, List.getElem_cons_succ, List.getElem_cons_zero, List.setIfInBounds_toArray, List.set_cons_zero, List.set_cons_succ]
      refine wpAnyH_ready (rs := [14]) (by kernel_rfl) (by simp) ?_
      refine (AllReadyH.cons rfl (fun K hK => ?_) AllReadyH.nil)
      go_simp
      with_reducible refine (cmd_curves q 4 _).mono ?_
      rintro e w21 ⟨v21, rfl, hO21, hc21⟩
      obtain ⟨bp, cp, rfl, hBp, hPp⟩ := PieceAt.own hO21 (by omega) (by simp [wordAt, Value.oneCell'])
      have hb21 := below_next (hb20) hc21
      try go_wp2_with fail
      have Sb21 := Blk.next (Sb20) hc21
      have Tb21 := Blk.next (Tb20) hc21
      have Ph21 := hPp
      refine hK.out _ _ (KE.out _ hb21) (fun hH21 => ?_)
      clear hK K hH
      have hH := hH21
      clear hH21
      try simp only [Act.put, List.getElem_toArray, List.getElem_cons_succ, List.getElem_cons_zero, List.setIfInBounds_toArray, List.set_cons_zero, List.set_cons_succ]
      refine wpAnyH_ready (rs := [24]) (by kernel_rfl) (by simp) ?_
      refine (AllReadyH.cons rfl (fun K hK => ?_) AllReadyH.nil)
      go_simp
      have Ph22 := (Ph21).next ((Below.refl (w21).heap.size (w21)).alloc (Nat.le_refl _) (.cells #[.slice (some ⟨(W0.heap.size + 1), 0, none⟩) 3 3, .slice (some ⟨bp, 0, none⟩) 9 cp, .slice (some ⟨(W0.heap.size), 0, none⟩) 2 2] 55))
      have NETR22 : W0.heap.size ≠ w21.heap.size := Nat.ne_of_lt (Nat.lt_of_lt_of_eq (Blk.lt Tb21) (by simp))
      have NESR22 : W0.heap.size + 1 ≠ w21.heap.size := Nat.ne_of_lt (Nat.lt_of_lt_of_eq (Blk.lt Sb21) (by simp))
      have Tb22 := Blk.alloc Tb21 (.cells #[.slice (some ⟨(W0.heap.size + 1), 0, none⟩) 3 3, .slice (some ⟨bp, 0, none⟩) 9 cp, .slice (some ⟨(W0.heap.size), 0, none⟩) 2 2] 55)
      have Sb22 := Blk.alloc Sb21 (.cells #[.slice (some ⟨(W0.heap.size + 1), 0, none⟩) 3 3, .slice (some ⟨bp, 0, none⟩) 9 cp, .slice (some ⟨(W0.heap.size), 0, none⟩) 2 2] 55)
      have Rb22 : Blk (w21.alloc (.cells #[.slice (some ⟨(W0.heap.size + 1), 0, none⟩) 3 3, .slice (some ⟨bp, 0, none⟩) 9 cp, .slice (some ⟨(W0.heap.size), 0, none⟩) 2 2] 55)) (w21.heap.size) 55 #[.slice (some ⟨(W0.heap.size + 1), 0, none⟩) 3 3, .slice (some ⟨bp, 0, none⟩) 9 cp, .slice (some ⟨(W0.heap.size), 0, none⟩) 2 2] := Blk.new_at (by simp)
      have QGR : W0.heap.size ≤ w21.heap.size := Nat.le_trans (Below.size (hb21)) (Nat.le_of_eq (by simp))
      have hb22 := Below.alloc (hb21) (Below.size (hb21)) (.cells #[.slice (some ⟨(W0.heap.size + 1), 0, none⟩) 3 3, .slice (some ⟨bp, 0, none⟩) 9 cp, .slice (some ⟨(W0.heap.size), 0, none⟩) 2 2] 55)
      refine hK.out _ _ (KE.out _ hb22) (fun hH22 => ?_)
      clear hK K hH
      have hH := hH22
      clear hH22
      try simp only [Act.put, List.getElem_toArray, List.getElem_cons_succ, List.getElem_cons_zero, List.setIfInBounds_toArray, List.set_cons_zero, List.set_cons_succ]
      refine wpAnyH_ready (rs := [25]) (by kernel_rfl) (by simp) ?_
      refine (AllReadyH.cons rfl (fun K hK => ?_) AllReadyH.nil)
      go_simp
      with_reducible refine (cmd_concat3 _ 3 _ _ _ 3 cp 2 [intAt q 4, intAt q 5, flagAt q 6] [wordAt q (4 + 3), wordAt q (4 + 4), wordAt q (4 + 5), wordAt q (4 + 6), wordAt q (4 + 7), wordAt q (4 + 8), wordAt q (4 + 9), wordAt q (4 + 10), wordAt q (4 + 11)] [intAt q 16, intAt q 17] _ (Rb22).lt ((Rb22).get 0 rfl) ((Rb22).get 1 rfl) ((Rb22).get 2 rfl) (PieceAt.blk (Sb22) rfl (by simp [wordAt, intAt, flagAt, Value.oneCell'])) (Ph22) (PieceAt.blk (Tb22) rfl (by simp [wordAt, intAt, flagAt, Value.oneCell'])) (by simp) (by simp) (by simp)).mono ?_
      rintro e w23 ⟨v23, rfl, hO, hc23⟩
      have hO2 := own_less hO (Below.size (hb22))
      have hb23 := below_next (hb22) hc23
      try go_wp2_with fail
      refine hK.out _ _ (KE.out _ hb23) (fun hH23 => ?_)
      clear hK K hH
      have hH := hH23
      clear hH23
      try simp only [Act.put, List.getElem_toArray, List.getElem_cons_succ, List.getElem_cons_zero, List.setIfInBounds_toArray, List.set_cons_zero, List.set_cons_succ]
      first | (refine wpAnyH_take (i := 26) (v := undef) rfl ?_ ?_ ?_ (fun _ _ _ h => h) ?_ ?_ ?_; kernel_rfl; kernel_rfl; kernel_rfl; exact Or.inr ⟨by rfl, rfl⟩; exact hH) | (refine wpAnyH_take (i := 26) (v := ?_) rfl ?_ ?_ ?_ (fun _ _ _ h => h) ?_ ?_ ?_; rotate_left; kernel_rfl; kernel_rfl; kernel_rfl; (focus (refine Or.inl ⟨by rfl, ?_⟩; intro w' hSw; (try dsimp only at hSw); go_simp)); exact hH) | (refine wpAnyH_take (i := 26) (v := ?_) rfl ?_ ?_ ?_ (fun _ _ _ h => h) ?_ ?_ ?_; rotate_left; kernel_rfl; kernel_rfl; kernel_rfl; (focus (refine Or.inl ⟨by rfl, ?_⟩; intro w' hSw; (try dsimp only at hSw); go_simp; with_reducible rfl)); exact hH)
      try simp only [Act.put, List.getElem_toArray, List.getElem_cons_succ, List.getElem_cons_zero, List.setIfInBounds_toArray, List.set_cons_zero, List.set_cons_succ]
      refine wpAnyH_done (by kernel_rfl) ?_ _
      refine NoPanic.normal ?_
      go_wp2_with fail
      go_ret
      obtain ⟨rfl, hb0⟩ := HB0.out
      have h5 := hb0.trans hb23
      exact ⟨_, by simp, hO2, h5⟩
    · skip
      go_simp
      with_reducible refine (cmd_curves q 4 _).mono ?_
      rintro e w24 ⟨v24, rfl, hO24, hc24⟩
      obtain ⟨bp, cp, rfl, hBp, hPp⟩ := PieceAt.own hO24 (by omega) (by simp [wordAt, Value.oneCell'])
      have hb24 := below_next (hb19) hc24
      try go_wp2_with fail
      have Tb24 := Blk.next (Tb19) hc24
      have Ph24 := hPp
      refine hK.out _ _ (KE.out _ hb24) (fun hH24 => ?_)
      clear hK K hH
      have hH := hH24
      clear hH24
      try simp only [Act.put, List.getElem_toArray, List.getElem_cons_succ, List.getElem_cons_zero, List.setIfInBounds_toArray, List.set_cons_zero, List.set_cons_succ]
      refine wpAnyH_ready (rs := [12]) (by kernel_rfl) (by simp) ?_
      refine (AllReadyH.cons rfl (fun K hK => ?_) AllReadyH.nil)
      go_simp
      have Ph25 := (Ph24).next ((Below.refl (w24).heap.size (w24)).alloc (Nat.le_refl _) (.cells #[.iface 76 (.pointer (some ⟨q, 4, none⟩)), .iface 76 (.pointer (some ⟨q, 5, none⟩)), .iface 79 (.pointer (some ⟨q, 6, none⟩))] 20))
      have NETS25 : W0.heap.size ≠ w24.heap.size := Nat.ne_of_lt (Nat.lt_of_lt_of_eq (Blk.lt Tb24) (by simp))
      have Tb25 := Blk.alloc Tb24 (.cells #[.iface 76 (.pointer (some ⟨q, 4, none⟩)), .iface 76 (.pointer (some ⟨q, 5, none⟩)), .iface 79 (.pointer (some ⟨q, 6, none⟩))] 20)
      have Sb25 : Blk (w24.alloc (.cells #[.iface 76 (.pointer (some ⟨q, 4, none⟩)), .iface 76 (.pointer (some ⟨q, 5, none⟩)), .iface 79 (.pointer (some ⟨q, 6, none⟩))] 20)) (w24.heap.size) 20 #[.iface 76 (.pointer (some ⟨q, 4, none⟩)), .iface 76 (.pointer (some ⟨q, 5, none⟩)), .iface 79 (.pointer (some ⟨q, 6, none⟩))] := Blk.new_at (by simp)
      have QGS : W0.heap.size ≤ w24.heap.size := Nat.le_trans (Below.size (hb24)) (Nat.le_of_eq (by simp))
      have hb25 := Below.alloc (hb24) (Below.size (hb24)) (.cells #[.iface 76 (.pointer (some ⟨q, 4, none⟩)), .iface 76 (.pointer (some ⟨q, 5, none⟩)), .iface 79 (.pointer (some ⟨q, 6, none⟩))] 20)
      refine hK.out _ _ (KE.out _ hb25) (fun hH25 => ?_)
      clear hK K hH
      have hH := hH25
      clear hH25
      try simp only [Act.put, List.getElem_toArray, List.getElem_cons_succ, List.getElem_cons_zero, List.setIfInBounds_toArray, List.set_cons_zero, List.set_cons_succ]
      refine wpAnyH_ready (rs := [24]) (by kernel_rfl) (by simp) ?_
      refine (AllReadyH.cons rfl (fun K hK => ?_) AllReadyH.nil)
      go_simp
      have Ph26 := (Ph25).next ((Below.refl ((w24.alloc (.cells #[.iface 76 (.pointer (some ⟨q, 4, none⟩)), .iface 76 (.pointer (some ⟨q, 5, none⟩)), .iface 79 (.pointer (some ⟨q, 6, none⟩))] 20))).heap.size ((w24.alloc (.cells #[.iface 76 (.pointer (some ⟨q, 4, none⟩)), .iface 76 (.pointer (some ⟨q, 5, none⟩)), .iface 79 (.pointer (some ⟨q, 6, none⟩))] 20)))).alloc (Nat.le_refl _) (.cells #[.slice (some ⟨(w24.heap.size), 0, none⟩) 3 3, .slice (some ⟨bp, 0, none⟩) 9 cp, .slice (some ⟨(W0.heap.size), 0, none⟩) 2 2] 55))
      have NETR26 : W0.heap.size ≠ w24.heap.size + 1 := Nat.ne_of_lt (Nat.lt_of_lt_of_eq (Blk.lt Tb25) (by simp))
      have NESR26 : w24.heap.size ≠ w24.heap.size + 1 := Nat.ne_of_lt (Nat.lt_of_lt_of_eq (Blk.lt Sb25) (by simp))
      have Tb26 := Blk.alloc Tb25 (.cells #[.slice (some ⟨(w24.heap.size), 0, none⟩) 3 3, .slice (some ⟨bp, 0, none⟩) 9 cp, .slice (some ⟨(W0.heap.size), 0, none⟩) 2 2] 55)
      have Sb26 := Blk.alloc Sb25 (.cells #[.slice (some ⟨(w24.heap.size), 0, none⟩) 3 3, .slice (some ⟨bp, 0, none⟩) 9 cp, .slice (some ⟨(W0.heap.size), 0, none⟩) 2 2] 55)
      have Rb26 : Blk ((w24.alloc (.cells #[.iface 76 (.pointer (some ⟨q, 4, none⟩)), .iface 76 (.pointer (some ⟨q, 5, none⟩)), .iface 79 (.pointer (some ⟨q, 6, none⟩))] 20)).alloc (.cells #[.slice (some ⟨(w24.heap.size), 0, none⟩) 3 3, .slice (some ⟨bp, 0, none⟩) 9 cp, .slice (some ⟨(W0.heap.size), 0, none⟩) 2 2] 55)) (w24.heap.size + 1) 55 #[.slice (some ⟨(w24.heap.size), 0, none⟩) 3 3, .slice (some ⟨bp, 0, none⟩) 9 cp, .slice (some ⟨(W0.heap.size), 0, none⟩) 2 2] := Blk.new_at (by simp)
      have QGR : W0.heap.size ≤ w24.heap.size + 1 := Nat.le_trans (Below.size (hb25)) (Nat.le_of_eq (by simp))
      have hb26 := Below.alloc (hb25) (Below.size (hb25)) (.cells #[.slice (some ⟨(w24.heap.size), 0, none⟩) 3 3, .slice (some ⟨bp, 0, none⟩) 9 cp, .slice (some ⟨(W0.heap.size), 0, none⟩) 2 2] 55)
      refine hK.out _ _ (KE.out _ hb26) (fun hH26 => ?_)
      clear hK K hH
      have hH := hH26
      clear hH26
      try simp only [Act.put, List.getElem_toArray, List.getElem_cons_succ, List.getElem_cons_zero, List.setIfInBounds_toArray, List.set_cons_zero, List.set_cons_succ]
      refine wpAnyH_ready (rs := [25]) (by kernel_rfl) (by simp) ?_
      refine (AllReadyH.cons rfl (fun K hK => ?_) AllReadyH.nil)
      go_simp
      with_reducible refine (cmd_concat3 _ 3 _ _ _ 3 cp 2 [intAt q 4, intAt q 5, flagAt q 6] [wordAt q (4 + 3), wordAt q (4 + 4), wordAt q (4 + 5), wordAt q (4 + 6), wordAt q (4 + 7), wordAt q (4 + 8), wordAt q (4 + 9), wordAt q (4 + 10), wordAt q (4 + 11)] [intAt q 16, intAt q 17] _ (Rb26).lt ((Rb26).get 0 rfl) ((Rb26).get 1 rfl) ((Rb26).get 2 rfl) (PieceAt.blk (Sb26) rfl (by simp [wordAt, intAt, flagAt, Value.oneCell'])) (Ph26) (PieceAt.blk (Tb26) rfl (by simp [wordAt, intAt, flagAt, Value.oneCell'])) (by simp) (by simp) (by simp)).mono ?_
      rintro e w27 ⟨v27, rfl, hO, hc27⟩
      have hO2 := own_less hO (Below.size (hb26))
      have hb27 := below_next (hb26) hc27
      try go_wp2_with fail
      refine hK.out _ _ (KE.out _ hb27) (fun hH27 => ?_)
      clear hK K hH
      have hH := hH27
      clear hH27
      try simp only [Act.put, List.getElem_toArray, List.getElem_cons_succ, List.getElem_cons_zero, List.setIfInBounds_toArray, List.set_cons_zero, List.set_cons_succ]
      first | (refine wpAnyH_take (i := 26) (v := undef) rfl ?_ ?_ ?_ (fun _ _ _ h => h) ?_ ?_ ?_; kernel_rfl; kernel_rfl; kernel_rfl; exact Or.inr ⟨by rfl, rfl⟩; exact hH) | (refine wpAnyH_take (i := 26) (v := ?_) rfl ?_ ?_ ?_ (fun _ _ _ h => h) ?_ ?_ ?_; rotate_left; kernel_rfl; kernel_rfl; kernel_rfl; (focus (refine Or.inl ⟨by rfl, ?_⟩; intro w' hSw; (try dsimp only at hSw); go_simp)); exact hH) | (refine wpAnyH_take (i := 26) (v := ?_) rfl ?_ ?_ ?_ (fun _ _ _ h => h) ?_ ?_ ?_; rotate_left; kernel_rfl; kernel_rfl; kernel_rfl; (focus (refine Or.inl ⟨by rfl, ?_⟩; intro w' hSw; (try dsimp only at hSw); go_simp; with_reducible rfl)); exact hH)
      try simp only [Act.put, List.getElem_toArray, List.getElem_cons_succ, List.getElem_cons_zero, List.setIfInBounds_toArray, List.set_cons_zero, List.set_cons_succ]
      refine wpAnyH_done (by kernel_rfl) ?_ _
      refine NoPanic.normal ?_
      go_wp2_with fail
      go_ret
      obtain ⟨rfl, hb0⟩ := HB0.out
      have h5 := hb0.trans hb27
      exact ⟨_, by simp, hO2, h5⟩

end Go.Proofs.YtjhffbhjiflfeaaDoor
