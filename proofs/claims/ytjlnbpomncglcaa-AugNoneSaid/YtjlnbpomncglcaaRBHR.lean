/-
  Red-black trees in memory (h): a node's copy.
-/
import Derived.Test.YtjlnbpomncglcaaProg
import Derived.Test.YtjlnbpomncglcaaRBHQ
namespace Go.Proofs.Ytjlnbpomncglcaa
set_option linter.unusedVariables false
set_option linter.unusedSimpArgs false
set_option maxRecDepth 100000
open Go.RowKit

def CpRH (w : World) (t : RB (Int × Int)) (e : Ending) (w' : World) : Prop := ∃ t' : RB (Int × Int), e = .returned (.pointer (ptrO t')) ∧ RepH w' t' ∧ likeH t t' ∧ t'.blocks.Nodup ∧ (∀ x ∈ t'.blocks, w.heap.size ≤ x) ∧ Below w.heap.size w w'
set_option maxHeartbeats 16000000 in
theorem rh_copied : ∀ (t : RB (Int × Int)) (w : World), RepH w t → Calls Try.prog 106 #[.pointer (ptrO t)] w fun e w' => CpRH w t e w' := by
  intro t
  induction t with
  | nil =>
    intro w h
    have e0 : (.pointer (ptrO (.nil : RB (Int × Int))) : Value) = .pointer none := rfl
    rw [e0]
    go_enter Try.func106, Try.ntmps106
    go_wp2_with fail
    go_ret
    exact ⟨.nil, rfl, trivial, trivial, List.nodup_nil, (fun x hx => by cases hx), Below.refl _ _⟩
  | node b c l k v s r ihl ihr =>
    intro w h
    have hb : Blk w b 138 #[.int .u64 k.1, .int .i64 k.2, .int .u64 v, .int .u64 s.1, .int .i64 s.2, .bool c, ptrV l, ptrV r] ∧ RepH w l ∧ RepH w r := h
    have HB := Lib.hid hb
    have H1 := Lib.hid ihl
    have H2 := Lib.hid ihr
    have hbb : Blk w b 138 #[.int .u64 k.1, .int .i64 k.2, .int .u64 v, .int .u64 s.1, .int .i64 s.2, .bool c, .pointer (ptrO l), .pointer (ptrO r)] := by have := hb.1; rw [ptrV_eq, ptrV_eq] at this; exact this
    have HBB := Lib.hid hbb
    rw [node_ptr]
    have y0 : w.cell? ⟨b, 0, none⟩ = some (.int .u64 k.1) := hbb.get 0 rfl
    have y1 : w.cell? ⟨b, 1, none⟩ = some (.int .i64 k.2) := hbb.get 1 rfl
    have y2 : w.cell? ⟨b, 2, none⟩ = some (.int .u64 v) := hbb.get 2 rfl
    have y3 : w.cell? ⟨b, 3, none⟩ = some (.int .u64 s.1) := hbb.get 3 rfl
    have y4 : w.cell? ⟨b, 4, none⟩ = some (.int .i64 s.2) := hbb.get 4 rfl
    have y5 : w.cell? ⟨b, 5, none⟩ = some (.bool c) := hbb.get 5 rfl
    have y6 : w.cell? ⟨b, 6, none⟩ = some (.pointer (ptrO l)) := hbb.get 6 rfl
    have y7 : w.cell? ⟨b, 7, none⟩ = some (.pointer (ptrO r)) := hbb.get 7 rfl
    clear h hb hbb ihl ihr
    go_enter Try.func106, Try.ntmps106
    go_upto_region 4 with (fail)
    clear y0 y1 y2 y3 y4 y5 y6 y7
    have hba : Below w.heap.size w (w.alloc (.cells #[.int .u64 k.1, .int .i64 k.2, .int .u64 v, .int .u64 s.1, .int .i64 s.2, .bool c, .pointer (ptrO l), .pointer (ptrO r)] 138)) := by go_grown
    have hoa : Blk (w.alloc (.cells #[.int .u64 k.1, .int .i64 k.2, .int .u64 v, .int .u64 s.1, .int .i64 s.2, .bool c, .pointer (ptrO l), .pointer (ptrO r)] 138)) w.heap.size 138 #[.int .u64 k.1, .int .i64 k.2, .int .u64 v, .int .u64 s.1, .int .i64 s.2, .bool c, .pointer (ptrO l), .pointer (ptrO r)] := Blk.new w 138 _
    have hza : (w.alloc (.cells #[.int .u64 k.1, .int .i64 k.2, .int .u64 v, .int .u64 s.1, .int .i64 s.2, .bool c, .pointer (ptrO l), .pointer (ptrO r)] 138)).heap.size = w.heap.size + 1 := by simp
    generalize w.alloc (.cells #[.int .u64 k.1, .int .i64 k.2, .int .u64 v, .int .u64 s.1, .int .i64 s.2, .bool c, .pointer (ptrO l), .pointer (ptrO r)] 138) = wa at hba hoa hza ⊢
    have HA := Lib.hid (And.intro hba (And.intro hoa hza))
    have hblt : b < w.heap.size := HBB.out.lt
    have HLT := Lib.hid hblt
    have hbd := HBB.out.below hba hblt
    have HBD := Lib.hid hbd
    clear hba hoa hza hblt hbd
    have KP : Hid (∀ w', Below (w.heap.size) wa w' → (w'.cell? ⟨b, 6, none⟩ = some (.pointer (ptrO l)) ∧ w'.cell? ⟨b, 7, none⟩ = some (.pointer (ptrO r))) ∧ Below (w.heap.size) wa w') := fun w' hb => ⟨⟨((HBD.out.below hb HLT.out).get 6 rfl), ((HBD.out.below hb HLT.out).get 7 rfl)⟩, hb⟩
    refine wp_region_noPanic ?_
    refine wp_region_Z [13] (fun w' => (w'.cell? ⟨b, 6, none⟩ = some (.pointer (ptrO l)) ∧ w'.cell? ⟨b, 7, none⟩ = some (.pointer (ptrO r))) ∧ Below (w.heap.size) wa w') (by kernel_rfl) (KP.out _ (below_of_drew ((Below.refl w.heap.size wa)))) (fun hH => ?_)
    have OUb0 : Blk (wa).drew (w.heap.size) (138) #[(.int .u64 k.1), (.int .i64 k.2), (.int .u64 v), (.int .u64 s.1), (.int .i64 s.2), (.bool c), (.pointer (ptrO l)), (.pointer (ptrO r))] := Blk.drew (HA.out.2.1)
    have hbR := below_of_drew ((Below.refl w.heap.size wa))
    first | (refine wpAnyZ_take (i := 0) (v := undef) rfl ?_ ?_ ?_ ?_ (fun _ _ _ h => h) ?_ ?_ ?_; kernel_rfl; kernel_rfl; kernel_rfl; kernel_rfl; exact Or.inr ⟨by rfl, rfl⟩; exact hH) | (refine wpAnyZ_take (i := 0) (v := ?_) rfl ?_ ?_ ?_ ?_ (fun _ _ _ h => h) ?_ ?_ ?_; rotate_left; kernel_rfl; kernel_rfl; kernel_rfl; kernel_rfl; (focus (refine Or.inl ⟨by rfl, ?_⟩; intro w' hSw; (try dsimp only at hSw); go_simp)); exact hH) | (refine wpAnyZ_take (i := 0) (v := ?_) rfl ?_ ?_ ?_ ?_ (fun _ _ _ h => h) ?_ ?_ ?_; rotate_left; kernel_rfl; kernel_rfl; kernel_rfl; kernel_rfl; (focus (refine Or.inl ⟨by rfl, ?_⟩; intro w' hSw; (try dsimp only at hSw); go_simp; with_reducible rfl)); exact hH)
    try simp only [Act.put, List.getElem_toArray, List.getElem_cons_succ, List.getElem_cons_zero, List.setIfInBounds_toArray, List.set_cons_zero, List.set_cons_succ]
    first | (refine wpAnyZ_take (i := 1) (v := undef) rfl ?_ ?_ ?_ ?_ (fun _ _ _ h => h) ?_ ?_ ?_; kernel_rfl; kernel_rfl; kernel_rfl; kernel_rfl; exact Or.inr ⟨by rfl, rfl⟩; exact hH) | (refine wpAnyZ_take (i := 1) (v := ?_) rfl ?_ ?_ ?_ ?_ (fun _ _ _ h => h) ?_ ?_ ?_; rotate_left; kernel_rfl; kernel_rfl; kernel_rfl; kernel_rfl; (focus (refine Or.inl ⟨by rfl, ?_⟩; intro w' hSw; (try dsimp only at hSw); go_simp)); exact hH) | (refine wpAnyZ_take (i := 1) (v := ?_) rfl ?_ ?_ ?_ ?_ (fun _ _ _ h => h) ?_ ?_ ?_; rotate_left; kernel_rfl; kernel_rfl; kernel_rfl; kernel_rfl; (focus (refine Or.inl ⟨by rfl, ?_⟩; intro w' hSw; (try dsimp only at hSw); go_simp; with_reducible rfl)); exact hH)
    try simp only [Act.put, List.getElem_toArray, List.getElem_cons_succ, List.getElem_cons_zero, List.setIfInBounds_toArray, List.set_cons_zero, List.set_cons_succ]
    first | (refine wpAnyZ_take (i := 2) (v := undef) rfl ?_ ?_ ?_ ?_ (fun _ _ _ h => h) ?_ ?_ ?_; kernel_rfl; kernel_rfl; kernel_rfl; kernel_rfl; exact Or.inr ⟨by rfl, rfl⟩; exact hH) | (refine wpAnyZ_take (i := 2) (v := ?_) rfl ?_ ?_ ?_ ?_ (fun _ _ _ h => h) ?_ ?_ ?_; rotate_left; kernel_rfl; kernel_rfl; kernel_rfl; kernel_rfl; (focus (refine Or.inl ⟨by rfl, ?_⟩; intro w' hSw; (try dsimp only at hSw); go_simp)); exact hH) | (refine wpAnyZ_take (i := 2) (v := ?_) rfl ?_ ?_ ?_ ?_ (fun _ _ _ h => h) ?_ ?_ ?_; rotate_left; kernel_rfl; kernel_rfl; kernel_rfl; kernel_rfl; (focus (refine Or.inl ⟨by rfl, ?_⟩; intro w' hSw; (try dsimp only at hSw); go_simp; with_reducible rfl)); exact hH)
    try simp only [Act.put, List.getElem_toArray, List.getElem_cons_succ, List.getElem_cons_zero, List.setIfInBounds_toArray, List.set_cons_zero, List.set_cons_succ]
    first | (refine wpAnyZ_take (i := 3) (v := undef) rfl ?_ ?_ ?_ ?_ (fun _ _ _ h => h) ?_ ?_ ?_; kernel_rfl; kernel_rfl; kernel_rfl; kernel_rfl; exact Or.inr ⟨by rfl, rfl⟩; exact hH) | (refine wpAnyZ_take (i := 3) (v := ?_) rfl ?_ ?_ ?_ ?_ (fun _ _ _ h => h) ?_ ?_ ?_; rotate_left; kernel_rfl; kernel_rfl; kernel_rfl; kernel_rfl; (focus (refine Or.inl ⟨by rfl, ?_⟩; intro w' hSw; (try dsimp only at hSw); go_simp)); exact hH) | (refine wpAnyZ_take (i := 3) (v := ?_) rfl ?_ ?_ ?_ ?_ (fun _ _ _ h => h) ?_ ?_ ?_; rotate_left; kernel_rfl; kernel_rfl; kernel_rfl; kernel_rfl; (focus (refine Or.inl ⟨by rfl, ?_⟩; intro w' hSw; (try dsimp only at hSw); go_simp; with_reducible rfl)); exact hH)
    try simp only [Act.put, List.getElem_toArray, List.getElem_cons_succ, List.getElem_cons_zero, List.setIfInBounds_toArray, List.set_cons_zero, List.set_cons_succ]
    first | (refine wpAnyZ_take (i := 5) (v := undef) rfl ?_ ?_ ?_ ?_ (fun _ _ _ h => h) ?_ ?_ ?_; kernel_rfl; kernel_rfl; kernel_rfl; kernel_rfl; exact Or.inr ⟨by rfl, rfl⟩; exact hH) | (refine wpAnyZ_take (i := 5) (v := ?_) rfl ?_ ?_ ?_ ?_ (fun _ _ _ h => h) ?_ ?_ ?_; rotate_left; kernel_rfl; kernel_rfl; kernel_rfl; kernel_rfl; (focus (refine Or.inl ⟨by rfl, ?_⟩; intro w' hSw; (try dsimp only at hSw); go_simp)); exact hH) | (refine wpAnyZ_take (i := 5) (v := ?_) rfl ?_ ?_ ?_ ?_ (fun _ _ _ h => h) ?_ ?_ ?_; rotate_left; kernel_rfl; kernel_rfl; kernel_rfl; kernel_rfl; (focus (refine Or.inl ⟨by rfl, ?_⟩; intro w' hSw; (try dsimp only at hSw); go_simp; with_reducible rfl)); exact hH)
    try simp only [Act.put, List.getElem_toArray, List.getElem_cons_succ, List.getElem_cons_zero, List.setIfInBounds_toArray, List.set_cons_zero, List.set_cons_succ]
    first | (refine wpAnyZ_take (i := 6) (v := undef) rfl ?_ ?_ ?_ ?_ (fun _ _ _ h => h) ?_ ?_ ?_; kernel_rfl; kernel_rfl; kernel_rfl; kernel_rfl; exact Or.inr ⟨by rfl, rfl⟩; exact hH) | (refine wpAnyZ_take (i := 6) (v := ?_) rfl ?_ ?_ ?_ ?_ (fun _ _ _ h => h) ?_ ?_ ?_; rotate_left; kernel_rfl; kernel_rfl; kernel_rfl; kernel_rfl; (focus (refine Or.inl ⟨by rfl, ?_⟩; intro w' hSw; (try dsimp only at hSw); go_simp)); exact hH) | (refine wpAnyZ_take (i := 6) (v := ?_) rfl ?_ ?_ ?_ ?_ (fun _ _ _ h => h) ?_ ?_ ?_; rotate_left; kernel_rfl; kernel_rfl; kernel_rfl; kernel_rfl; (focus (refine Or.inl ⟨by rfl, ?_⟩; intro w' hSw; (try dsimp only at hSw); go_simp; with_reducible rfl)); exact hH)
    try simp only [Act.put, List.getElem_toArray, List.getElem_cons_succ, List.getElem_cons_zero, List.setIfInBounds_toArray, List.set_cons_zero, List.set_cons_succ]
    first | (refine wpAnyZ_take (i := 7) (v := undef) rfl ?_ ?_ ?_ ?_ (fun _ _ _ h => h) ?_ ?_ ?_; kernel_rfl; kernel_rfl; kernel_rfl; kernel_rfl; exact Or.inr ⟨by rfl, rfl⟩; exact hH) | (refine wpAnyZ_take (i := 7) (v := ?_) rfl ?_ ?_ ?_ ?_ (fun _ _ _ h => h) ?_ ?_ ?_; rotate_left; kernel_rfl; kernel_rfl; kernel_rfl; kernel_rfl; (focus (refine Or.inl ⟨by rfl, ?_⟩; intro w' hSw; (try dsimp only at hSw); go_simp)); exact hH) | (refine wpAnyZ_take (i := 7) (v := ?_) rfl ?_ ?_ ?_ ?_ (fun _ _ _ h => h) ?_ ?_ ?_; rotate_left; kernel_rfl; kernel_rfl; kernel_rfl; kernel_rfl; (focus (refine Or.inl ⟨by rfl, ?_⟩; intro w' hSw; (try dsimp only at hSw); go_simp; with_reducible rfl)); exact hH)
    try simp only [Act.put, List.getElem_toArray, List.getElem_cons_succ, List.getElem_cons_zero, List.setIfInBounds_toArray, List.set_cons_zero, List.set_cons_succ]
    first | (refine wpAnyZ_take (i := 8) (v := undef) rfl ?_ ?_ ?_ ?_ (fun _ _ _ h => h) ?_ ?_ ?_; kernel_rfl; kernel_rfl; kernel_rfl; kernel_rfl; exact Or.inr ⟨by rfl, rfl⟩; exact hH) | (refine wpAnyZ_take (i := 8) (v := ?_) rfl ?_ ?_ ?_ ?_ (fun _ _ _ h => h) ?_ ?_ ?_; rotate_left; kernel_rfl; kernel_rfl; kernel_rfl; kernel_rfl; (focus (refine Or.inl ⟨by rfl, ?_⟩; intro w' hSw; (try dsimp only at hSw); go_simp)); exact hH) | (refine wpAnyZ_take (i := 8) (v := ?_) rfl ?_ ?_ ?_ ?_ (fun _ _ _ h => h) ?_ ?_ ?_; rotate_left; kernel_rfl; kernel_rfl; kernel_rfl; kernel_rfl; (focus (refine Or.inl ⟨by rfl, ?_⟩; intro w' hSw; (try dsimp only at hSw); go_simp; with_reducible rfl)); exact hH)
    try simp only [Act.put, List.getElem_toArray, List.getElem_cons_succ, List.getElem_cons_zero, List.setIfInBounds_toArray, List.set_cons_zero, List.set_cons_succ]
    refine wpAnyZ_ready (rs := [4]) (by kernel_rfl) (by simp) ?_
    refine (AllReadyZ.cons rfl (fun K hK => ?_) AllReadyZ.nil)
    go_simp
    have hsz1 : w.heap.size + 1 ≤ (wa.drew).heap.size := by have := Below.size hH.2; have := HA.out.2.2; omega
    with_reducible refine (H1.out _ (RepH.below HB.out.2.1 (HA.out.1.trans hH.2))).mono ?_
    rintro e w1 ⟨l', rfl, hr1, hl1, hn1, hg1, hb1⟩
    have hbk1 : Below w.heap.size wa w1 := (hH.2).trans (hb1.mono (by omega))
    have HC1 := Lib.hid (And.intro hr1 (And.intro hl1 (And.intro hn1 (And.intro (fun x hx => Nat.le_trans hsz1 (hg1 x hx)) hb1))))
    have ou1 := Blk.next OUb0 hb1
    have ouc1 : w1.cell? ⟨w.heap.size, 6, none⟩ = some (.pointer (ptrO l)) := ou1.get 6 rfl
    clear hr1 hl1 hn1 hg1
    try go_wp2_with fail
    have OUb1 := ou1
    have hH1 := KP.out _ hbk1
    refine hK.out _ _ (fun _ => hH1) ?_
    clear hK K hH
    have hH := hH1
    clear hH1
    try simp only [Act.put, List.getElem_toArray, List.getElem_cons_succ, List.getElem_cons_zero, List.setIfInBounds_toArray, List.set_cons_zero, List.set_cons_succ]
    refine wpAnyZ_ready (rs := [9]) (by kernel_rfl) (by simp) ?_
    refine (AllReadyZ.cons rfl (fun K hK => ?_) AllReadyZ.nil)
    go_simp
    with_reducible refine (H2.out _ (RepH.below HB.out.2.2 (HA.out.1.trans hH.2))).mono ?_
    rintro e w2 ⟨r', rfl, hr2, hl2, hn2, hg2, hb2⟩
    have hbk2 : Below w.heap.size wa w2 := (hH.2).trans (hb2.mono (by have := Below.size hH.2; have := HA.out.2.2; omega))
    have HC2 := Lib.hid (And.intro hr2 (And.intro hl2 (And.intro hn2 (And.intro hg2 (And.intro hb2 hbk2)))))
    have ou2 := Blk.next OUb1 hb2
    have ouc2 : w2.cell? ⟨w.heap.size, 6, none⟩ = some (.pointer (ptrO l)) := ou2.get 6 rfl
    have oud2 : w2.cell? ⟨w.heap.size, 7, none⟩ = some (.pointer (ptrO r)) := ou2.get 7 rfl
    have ouf2 := ou2.frozen 6
    have oug2 := ou2.frozen 7
    clear hr2 hl2 hn2 hg2
    try go_wp2_with fail
    have OUb2 := ou2
    have hH2 := KP.out _ hbk2
    refine hK.out _ _ (fun _ => hH2) ?_
    clear hK K hH
    have hH := hH2
    clear hH2
    try simp only [Act.put, List.getElem_toArray, List.getElem_cons_succ, List.getElem_cons_zero, List.setIfInBounds_toArray, List.set_cons_zero, List.set_cons_succ]
    first | (refine wpAnyZ_take (i := 10) (v := undef) rfl ?_ ?_ ?_ ?_ (fun _ _ _ h => h) ?_ ?_ ?_; kernel_rfl; kernel_rfl; kernel_rfl; kernel_rfl; exact Or.inr ⟨by rfl, rfl⟩; exact hH) | (refine wpAnyZ_take (i := 10) (v := ?_) rfl ?_ ?_ ?_ ?_ (fun _ _ _ h => h) ?_ ?_ ?_; rotate_left; kernel_rfl; kernel_rfl; kernel_rfl; kernel_rfl; (focus (refine Or.inl ⟨by rfl, ?_⟩; intro w' hSw; (try dsimp only at hSw); go_simp)); exact hH) | (refine wpAnyZ_take (i := 10) (v := ?_) rfl ?_ ?_ ?_ ?_ (fun _ _ _ h => h) ?_ ?_ ?_; rotate_left; kernel_rfl; kernel_rfl; kernel_rfl; kernel_rfl; (focus (refine Or.inl ⟨by rfl, ?_⟩; intro w' hSw; (try dsimp only at hSw); go_simp; with_reducible rfl)); exact hH)
    try simp only [Act.put, List.getElem_toArray, List.getElem_cons_succ, List.getElem_cons_zero, List.setIfInBounds_toArray, List.set_cons_zero, List.set_cons_succ]
    refine wpAnyZ_ready (rs := [11]) (by kernel_rfl) (by simp) ?_
    refine (AllReadyZ.cons rfl (fun K hK => ?_) AllReadyZ.nil)
    go_simp
    have OUb3 := (Blk.put OUb2 6 (.pointer (ptrO l')))
    have hb3 : Below (w.heap.size) wa _ := (Below.setCell (p := ⟨w.heap.size, 6, none⟩) hbk2 (by show _ ≤ w.heap.size; first | exact Nat.le_refl _ | exact hH.2.size | (simp only [World.size_alloc, World.size_drew] at *; omega)) (.pointer (ptrO l')))
    have hH3 := KP.out _ hb3
    refine hK.out _ _ (fun _ => hH3) ?_
    clear hK K hH
    have hH := hH3
    clear hH3
    try simp only [Act.put, List.getElem_toArray, List.getElem_cons_succ, List.getElem_cons_zero, List.setIfInBounds_toArray, List.set_cons_zero, List.set_cons_succ]
    first | (refine wpAnyZ_take (i := 12) (v := undef) rfl ?_ ?_ ?_ ?_ (fun _ _ _ h => h) ?_ ?_ ?_; kernel_rfl; kernel_rfl; kernel_rfl; kernel_rfl; exact Or.inr ⟨by rfl, rfl⟩; exact hH) | (refine wpAnyZ_take (i := 12) (v := ?_) rfl ?_ ?_ ?_ ?_ (fun _ _ _ h => h) ?_ ?_ ?_; rotate_left; kernel_rfl; kernel_rfl; kernel_rfl; kernel_rfl; (focus (refine Or.inl ⟨by rfl, ?_⟩; intro w' hSw; (try dsimp only at hSw); go_simp)); exact hH) | (refine wpAnyZ_take (i := 12) (v := ?_) rfl ?_ ?_ ?_ ?_ (fun _ _ _ h => h) ?_ ?_ ?_; rotate_left; kernel_rfl; kernel_rfl; kernel_rfl; kernel_rfl; (focus (refine Or.inl ⟨by rfl, ?_⟩; intro w' hSw; (try dsimp only at hSw); go_simp; with_reducible rfl)); exact hH)
    try simp only [Act.put, List.getElem_toArray, List.getElem_cons_succ, List.getElem_cons_zero, List.setIfInBounds_toArray, List.set_cons_zero, List.set_cons_succ]
    refine wpAnyZ_ready (rs := [13]) (by kernel_rfl) (by simp) ?_
    refine (AllReadyZ.cons rfl (fun K hK => ?_) AllReadyZ.nil)
    go_simp
    have OUb4 := (Blk.put OUb3 7 (.pointer (ptrO r')))
    refine hK.out _ _ (fun h => absurd (by simp) h) ?_
    clear hK K
    try simp only [Act.put, List.getElem_toArray, List.getElem_cons_succ, List.getElem_cons_zero, List.setIfInBounds_toArray, List.set_cons_zero, List.set_cons_succ]
    refine wpAnyZ_done (by kernel_rfl) ?_ _
    refine NoPanic.normal ?_
    have HOU := Lib.hid OUb4
    go_wp2_with fail
    go_ret
    have F2 : Fr (fun j => j = w.heap.size) w2 ((w2.setCell ⟨w.heap.size, 6, none⟩ (.pointer (ptrO l'))).setCell ⟨w.heap.size, 7, none⟩ (.pointer (ptrO r'))) := ((Fr.refl (fun j => j = w.heap.size) w2).setCell (p := ⟨w.heap.size, 6, none⟩) (fun _ => rfl) _).setCell (p := ⟨w.heap.size, 7, none⟩) (fun _ => rfl) _
    obtain ⟨a1, a2, a3, a4, a5⟩ := HC1.out
    obtain ⟨d1, d2, d3, d4, d5, d6⟩ := HC2.out
    have hl1 := RepH.lt a1
    have hsz1 : w.heap.size + 1 ≤ w1.heap.size := by have := Below.size a5; have := HA.out.2.2; have h3 : wa.drew.heap.size = wa.heap.size := rfl; omega
    refine ⟨.node w.heap.size c l' k v s r', rfl, ⟨?_, RepH.fr F2 (a1.below d5) (fun x hx e => by have := a4 x hx; omega), RepH.fr F2 d1 (fun x hx e => by have := d4 x hx; omega)⟩, ⟨rfl, rfl, rfl, rfl, a2, d2⟩, ?_, ?_, ?_⟩
    · rw [ptrV_eq, ptrV_eq]
      exact HOU.out
    · refine List.nodup_cons.2 ⟨fun hx => ?_, List.nodup_append.2 ⟨a3, d3, fun x hx y hy e => ?_⟩⟩
      · rcases List.mem_append.1 hx with h | h
        · have := a4 _ h; omega
        · have := d4 _ h; omega
      · have := hl1 x hx
        have := d4 y hy
        omega
    · intro x hx
      rcases List.mem_cons.1 hx with rfl | hx
      · exact Nat.le_refl _
      · rcases List.mem_append.1 hx with h | h
        · have := a4 _ h; omega
        · have := d4 _ h; omega
    · exact ((HA.out.1.trans d6).setCell (p := ⟨w.heap.size, 6, none⟩) (Nat.le_refl _) _).setCell (p := ⟨w.heap.size, 7, none⟩) (Nat.le_refl _) _

end Go.Proofs.Ytjlnbpomncglcaa
