/-
  Red-black trees in memory (u): what is asked of a tree.
-/
import Derived.Test.YtjlnbpomncglcaaProg
import Derived.Test.YtjlnbpomncglcaaRBUK
namespace Go.Proofs.Ytjlnbpomncglcaa
set_option linter.unusedVariables false
set_option linter.unusedSimpArgs false
set_option maxRecDepth 100000
open Go.RowKit

theorem ru_len (T : Nat) (t : RB Int) (w : World) (h : TrIsU w T t) :
    Calls Try.prog 36 #[.pointer (some ⟨T, 0, none⟩)] w fun e w' => e = .returned (.int .i64 (t.items.length : Int)) ∧ Below w.heap.size w w' := by
  have HT := Lib.hid h
  clear h
  go_enter Try.func36, Try.ntmps36
  go_wp2_with fail
  with_reducible refine (ru_none T w HT.out.tre).mono ?_
  rintro e wx ⟨rfl, rfl⟩
  have x0 : w.cell? ⟨T, 3, none⟩ = some (.int .i64 (t.items.length : Int)) := HT.out.blk.get 3 rfl
  go_wp2_with fail
  go_ret
  exact ⟨rfl, Below.refl _ _⟩
set_option maxHeartbeats 4000000 in
theorem ru_get (T : Nat) (t : RB Int) (k : RK) (w : World) (h : TrIsU w T t) :
    Calls Try.prog 29 #[.pointer (some ⟨T, 0, none⟩), .agg #[.int .u64 k.1, .int .i64 k.2]] w fun e w' => e = .returned (.tuple #[.int .u64 ((get k t.items).getD 0), .bool (get k t.items).isSome]) ∧ Below w.heap.size w w' := by
  have HT := Lib.hid h
  clear h
  go_enter Try.func29, Try.ntmps29
  go_upto_region 1 with (fail)
  have hb0 : Below w.heap.size w (w.alloc (.cells #[.int .u64 k.1, .int .i64 k.2] 31)) := by go_grown
  have kb := Blk.new w 31 #[.int .u64 k.1, .int .i64 k.2]
  generalize w.alloc (.cells #[.int .u64 k.1, .int .i64 k.2] 31) = wa at hb0 kb ⊢
  have HB := Lib.hid hb0
  have k0 : wa.cell? ⟨w.heap.size, 0, none⟩ = some (.int .u64 k.1) := kb.get 0 rfl
  have k1 : wa.cell? ⟨w.heap.size, 1, none⟩ = some (.int .i64 k.2) := kb.get 1 rfl
  clear hb0 kb
  go_wp2_with fail
  with_reducible refine (ru_at T t k wa (HT.out.next HB.out)).mono ?_
  rintro e w1 ⟨p, rfl, hp, hb1⟩
  have HB1 := Lib.hid (HB.out.trans (hb1.mono HB.out.size))
  unfold AtIsU at hp
  clear hb1 k0 k1
  cases hg : get k t.items with
  | none =>
    rw [hg] at hp
    have hp : p = .pointer none := hp
    subst hp
    have HG := Lib.hid hg
    clear hg
    go_wp2_with fail
    go_ret2
    exact ⟨by rw [HG.out]; rfl, HB1.out⟩
  | some v =>
    rw [hg] at hp
    obtain ⟨b, c, l, s, r, rfl, hb, -⟩ := (show ∃ b c l s r, p = .pointer (some ⟨b, 0, none⟩) ∧ Blk w1 b 106 #[.int .u64 k.1, .int .i64 k.2, .int .u64 v, .int .u64 s, .bool c, ptrV (l : RB Int), ptrV (r : RB Int)] ∧ b ∈ t.blocks from hp)
    have HG := Lib.hid hg
    have x0 : w1.cell? ⟨b, 2, none⟩ = some (.int .u64 v) := hb.get 2 rfl
    clear hg hp hb
    go_wp2_with fail
    go_ret2
    exact ⟨by rw [HG.out]; rfl, HB1.out⟩
/-- The summary of all. -/
def allU : RB Int → Int
  | .nil => 0
  | .node _ _ _ _ _ s _ => s
theorem ru_all (T : Nat) (t : RB Int) (w : World) (h : TrIsU w T t) :
    Calls Try.prog 23 #[.pointer (some ⟨T, 0, none⟩)] w fun e w' => e = .returned (.tuple #[(.int .u64 (allU t)), .bool (!t.items.isEmpty)]) ∧ Below w.heap.size w w' := by
  have HT := Lib.hid h
  clear h
  go_enter Try.func23, Try.ntmps23
  go_wp2_with fail
  with_reducible refine (ru_none T w HT.out.tre).mono ?_
  rintro e wx ⟨rfl, rfl⟩
  cases t with
  | nil =>
    have x0 : w.cell? ⟨T, 2, none⟩ = some (.pointer none) := HT.out.blk.get 2 rfl
    go_wp2_with fail
    go_ret2
    exact ⟨rfl, by first | exact Below.refl _ _ | go_grown⟩
  | node b c l k v s r =>
    have x0 : w.cell? ⟨T, 2, none⟩ = some (.pointer (some ⟨b, 0, none⟩)) := HT.out.blk.get 2 rfl
    have hb : Blk w b 106 #[.int .u64 k.1, .int .i64 k.2, .int .u64 v, .int .u64 s, .bool c, ptrV l, ptrV r] ∧ RepU w l ∧ RepU w r := HT.out.rep
    have y0 : w.cell? ⟨b, 3, none⟩ = some (.int .u64 s) := hb.1.get 3 rfl
    have he : (RB.items (.node b c l k v s r)).isEmpty = false := by simp [RB.items]
    have HE := Lib.hid he
    clear hb he
    go_wp2_with fail
    go_ret2
    exact ⟨by rw [HE.out]; rfl, by first | exact Below.refl _ _ | go_grown⟩
theorem height_sizeU : ∀ t : RB Int, t.height ≤ t.size
  | .nil => Nat.le_refl _
  | .node b c l k v s r => by
    have h1 := height_sizeU l
    have h2 := height_sizeU r
    simp only [RB.height, RB.size]
    omega
set_option maxHeartbeats 4000000 in
theorem ru_nheight : ∀ (t : RB Int) (w : World), RepU w t → t.size ≤ 1000000 → Calls Try.prog 68 #[.pointer (ptrO t)] w fun e w' => e = .returned (.int .i64 (t.height : Int)) ∧ Below w.heap.size w w' := by
  intro t
  induction t with
  | nil =>
    intro w h hs
    have e0 : (.pointer (ptrO (.nil : RB Int)) : Value) = .pointer none := rfl
    rw [e0]
    go_enter Try.func68, Try.ntmps68
    go_wp2_with fail
    go_ret
    exact ⟨rfl, Below.refl _ _⟩
  | node b c l k v s r ihl ihr =>
    intro w h hs
    have hb : Blk w b 106 #[.int .u64 k.1, .int .i64 k.2, .int .u64 v, .int .u64 s, .bool c, ptrV l, ptrV r] ∧ RepU w l ∧ RepU w r := h
    have HB := Lib.hid hb
    have hsz : l.size + r.size + 1 ≤ 1000000 := hs
    have H1 := Lib.hid (fun w h => ihl w h (by omega))
    have H2 := Lib.hid (fun w h => ihr w h (by omega))
    have q1 := height_sizeU l
    have q2 := height_sizeU r
    obtain ⟨a, ha⟩ : ∃ a, l.height = a := ⟨_, rfl⟩
    obtain ⟨d, hd⟩ : ∃ a, r.height = a := ⟨_, rfl⟩
    rw [ha] at H1 q1
    rw [hd] at H2 q2
    have em : (RB.node b c l k v s r).height = max a d + 1 := by rw [← ha, ← hd]; rfl
    rw [em]
    have qa : a ≤ 1000000 := by omega
    have qd : d ≤ 1000000 := by omega
    have QQ := Lib.hid (And.intro qa qd)
    rw [node_ptr]
    clear h hb hs ihl ihr hsz em ha hd q1 q2 qa qd
    have KP : Hid (∀ w', Below (w.heap.size) w w' → (w'.cell? ⟨b, 5, none⟩ = some (.pointer (ptrO l)) ∧ w'.cell? ⟨b, 6, none⟩ = some (.pointer (ptrO r))) ∧ Below (w.heap.size) w w') := fun w' hb => ⟨⟨(by rw [← ptrV_eq]; exact (HB.out.1.next hb).get 5 rfl), (by rw [← ptrV_eq]; exact (HB.out.1.next hb).get 6 rfl)⟩, hb⟩
    go_enter Try.func68, Try.ntmps68
    go_upto_region 3 with (fail)
    refine wp_region_noPanic ?_
    refine wp_region_held_drew (S := fun w' => (w'.cell? ⟨b, 5, none⟩ = some (.pointer (ptrO l)) ∧ w'.cell? ⟨b, 6, none⟩ = some (.pointer (ptrO r))) ∧ Below (w.heap.size) w w') (by kernel_rfl) (KP.out _ (below_of_drew ((Below.refl w.heap.size w)))) (fun hH => ?_)
    first | (refine wpAnyH_take (i := 0) (v := undef) rfl ?_ ?_ ?_ (fun _ _ _ h => h) ?_ ?_ ?_; kernel_rfl; kernel_rfl; kernel_rfl; exact Or.inr ⟨by rfl, rfl⟩; exact hH) | (refine wpAnyH_take (i := 0) (v := ?_) rfl ?_ ?_ ?_ (fun _ _ _ h => h) ?_ ?_ ?_; rotate_left; kernel_rfl; kernel_rfl; kernel_rfl; (focus (refine Or.inl ⟨by rfl, ?_⟩; intro w' hSw; (try dsimp only at hSw); go_simp)); exact hH) | (refine wpAnyH_take (i := 0) (v := ?_) rfl ?_ ?_ ?_ (fun _ _ _ h => h) ?_ ?_ ?_; rotate_left; kernel_rfl; kernel_rfl; kernel_rfl; (focus (refine Or.inl ⟨by rfl, ?_⟩; intro w' hSw; (try dsimp only at hSw); go_simp; with_reducible rfl)); exact hH)
    try simp only [Act.put, List.getElem_toArray, List.getElem_cons_succ, List.getElem_cons_zero, List.setIfInBounds_toArray, List.set_cons_zero, List.set_cons_succ]
    first | (refine wpAnyH_take (i := 1) (v := undef) rfl ?_ ?_ ?_ (fun _ _ _ h => h) ?_ ?_ ?_; kernel_rfl; kernel_rfl; kernel_rfl; exact Or.inr ⟨by rfl, rfl⟩; exact hH) | (refine wpAnyH_take (i := 1) (v := ?_) rfl ?_ ?_ ?_ (fun _ _ _ h => h) ?_ ?_ ?_; rotate_left; kernel_rfl; kernel_rfl; kernel_rfl; (focus (refine Or.inl ⟨by rfl, ?_⟩; intro w' hSw; (try dsimp only at hSw); go_simp)); exact hH) | (refine wpAnyH_take (i := 1) (v := ?_) rfl ?_ ?_ ?_ (fun _ _ _ h => h) ?_ ?_ ?_; rotate_left; kernel_rfl; kernel_rfl; kernel_rfl; (focus (refine Or.inl ⟨by rfl, ?_⟩; intro w' hSw; (try dsimp only at hSw); go_simp; with_reducible rfl)); exact hH)
    try simp only [Act.put, List.getElem_toArray, List.getElem_cons_succ, List.getElem_cons_zero, List.setIfInBounds_toArray, List.set_cons_zero, List.set_cons_succ]
    first | (refine wpAnyH_take (i := 2) (v := undef) rfl ?_ ?_ ?_ (fun _ _ _ h => h) ?_ ?_ ?_; kernel_rfl; kernel_rfl; kernel_rfl; exact Or.inr ⟨by rfl, rfl⟩; exact hH) | (refine wpAnyH_take (i := 2) (v := ?_) rfl ?_ ?_ ?_ (fun _ _ _ h => h) ?_ ?_ ?_; rotate_left; kernel_rfl; kernel_rfl; kernel_rfl; (focus (refine Or.inl ⟨by rfl, ?_⟩; intro w' hSw; (try dsimp only at hSw); go_simp)); exact hH) | (refine wpAnyH_take (i := 2) (v := ?_) rfl ?_ ?_ ?_ (fun _ _ _ h => h) ?_ ?_ ?_; rotate_left; kernel_rfl; kernel_rfl; kernel_rfl; (focus (refine Or.inl ⟨by rfl, ?_⟩; intro w' hSw; (try dsimp only at hSw); go_simp; with_reducible rfl)); exact hH)
    try simp only [Act.put, List.getElem_toArray, List.getElem_cons_succ, List.getElem_cons_zero, List.setIfInBounds_toArray, List.set_cons_zero, List.set_cons_succ]
    first | (refine wpAnyH_take (i := 3) (v := undef) rfl ?_ ?_ ?_ (fun _ _ _ h => h) ?_ ?_ ?_; kernel_rfl; kernel_rfl; kernel_rfl; exact Or.inr ⟨by rfl, rfl⟩; exact hH) | (refine wpAnyH_take (i := 3) (v := ?_) rfl ?_ ?_ ?_ (fun _ _ _ h => h) ?_ ?_ ?_; rotate_left; kernel_rfl; kernel_rfl; kernel_rfl; (focus (refine Or.inl ⟨by rfl, ?_⟩; intro w' hSw; (try dsimp only at hSw); go_simp)); exact hH) | (refine wpAnyH_take (i := 3) (v := ?_) rfl ?_ ?_ ?_ (fun _ _ _ h => h) ?_ ?_ ?_; rotate_left; kernel_rfl; kernel_rfl; kernel_rfl; (focus (refine Or.inl ⟨by rfl, ?_⟩; intro w' hSw; (try dsimp only at hSw); go_simp; with_reducible rfl)); exact hH)
    try simp only [Act.put, List.getElem_toArray, List.getElem_cons_succ, List.getElem_cons_zero, List.setIfInBounds_toArray, List.set_cons_zero, List.set_cons_succ]
    first | (refine wpAnyH_take (i := 5) (v := undef) rfl ?_ ?_ ?_ (fun _ _ _ h => h) ?_ ?_ ?_; kernel_rfl; kernel_rfl; kernel_rfl; exact Or.inr ⟨by rfl, rfl⟩; exact hH) | (refine wpAnyH_take (i := 5) (v := ?_) rfl ?_ ?_ ?_ (fun _ _ _ h => h) ?_ ?_ ?_; rotate_left; kernel_rfl; kernel_rfl; kernel_rfl; (focus (refine Or.inl ⟨by rfl, ?_⟩; intro w' hSw; (try dsimp only at hSw); go_simp)); exact hH) | (refine wpAnyH_take (i := 5) (v := ?_) rfl ?_ ?_ ?_ (fun _ _ _ h => h) ?_ ?_ ?_; rotate_left; kernel_rfl; kernel_rfl; kernel_rfl; (focus (refine Or.inl ⟨by rfl, ?_⟩; intro w' hSw; (try dsimp only at hSw); go_simp; with_reducible rfl)); exact hH)
    try simp only [Act.put, List.getElem_toArray, List.getElem_cons_succ, List.getElem_cons_zero, List.setIfInBounds_toArray, List.set_cons_zero, List.set_cons_succ]
    first | (refine wpAnyH_take (i := 6) (v := undef) rfl ?_ ?_ ?_ (fun _ _ _ h => h) ?_ ?_ ?_; kernel_rfl; kernel_rfl; kernel_rfl; exact Or.inr ⟨by rfl, rfl⟩; exact hH) | (refine wpAnyH_take (i := 6) (v := ?_) rfl ?_ ?_ ?_ (fun _ _ _ h => h) ?_ ?_ ?_; rotate_left; kernel_rfl; kernel_rfl; kernel_rfl; (focus (refine Or.inl ⟨by rfl, ?_⟩; intro w' hSw; (try dsimp only at hSw); go_simp)); exact hH) | (refine wpAnyH_take (i := 6) (v := ?_) rfl ?_ ?_ ?_ (fun _ _ _ h => h) ?_ ?_ ?_; rotate_left; kernel_rfl; kernel_rfl; kernel_rfl; (focus (refine Or.inl ⟨by rfl, ?_⟩; intro w' hSw; (try dsimp only at hSw); go_simp; with_reducible rfl)); exact hH)
    try simp only [Act.put, List.getElem_toArray, List.getElem_cons_succ, List.getElem_cons_zero, List.setIfInBounds_toArray, List.set_cons_zero, List.set_cons_succ]
    first | (refine wpAnyH_take (i := 7) (v := undef) rfl ?_ ?_ ?_ (fun _ _ _ h => h) ?_ ?_ ?_; kernel_rfl; kernel_rfl; kernel_rfl; exact Or.inr ⟨by rfl, rfl⟩; exact hH) | (refine wpAnyH_take (i := 7) (v := ?_) rfl ?_ ?_ ?_ (fun _ _ _ h => h) ?_ ?_ ?_; rotate_left; kernel_rfl; kernel_rfl; kernel_rfl; (focus (refine Or.inl ⟨by rfl, ?_⟩; intro w' hSw; (try dsimp only at hSw); go_simp)); exact hH) | (refine wpAnyH_take (i := 7) (v := ?_) rfl ?_ ?_ ?_ (fun _ _ _ h => h) ?_ ?_ ?_; rotate_left; kernel_rfl; kernel_rfl; kernel_rfl; (focus (refine Or.inl ⟨by rfl, ?_⟩; intro w' hSw; (try dsimp only at hSw); go_simp; with_reducible rfl)); exact hH)
    try simp only [Act.put, List.getElem_toArray, List.getElem_cons_succ, List.getElem_cons_zero, List.setIfInBounds_toArray, List.set_cons_zero, List.set_cons_succ]
    first | (refine wpAnyH_take (i := 8) (v := undef) rfl ?_ ?_ ?_ (fun _ _ _ h => h) ?_ ?_ ?_; kernel_rfl; kernel_rfl; kernel_rfl; exact Or.inr ⟨by rfl, rfl⟩; exact hH) | (refine wpAnyH_take (i := 8) (v := ?_) rfl ?_ ?_ ?_ (fun _ _ _ h => h) ?_ ?_ ?_; rotate_left; kernel_rfl; kernel_rfl; kernel_rfl; (focus (refine Or.inl ⟨by rfl, ?_⟩; intro w' hSw; (try dsimp only at hSw); go_simp)); exact hH) | (refine wpAnyH_take (i := 8) (v := ?_) rfl ?_ ?_ ?_ (fun _ _ _ h => h) ?_ ?_ ?_; rotate_left; kernel_rfl; kernel_rfl; kernel_rfl; (focus (refine Or.inl ⟨by rfl, ?_⟩; intro w' hSw; (try dsimp only at hSw); go_simp; with_reducible rfl)); exact hH)
    try simp only [Act.put, List.getElem_toArray, List.getElem_cons_succ, List.getElem_cons_zero, List.setIfInBounds_toArray, List.set_cons_zero, List.set_cons_succ]
    refine wpAnyH_ready (rs := [4]) (by kernel_rfl) (by simp) ?_
    refine AllReadyH.cons rfl (fun K hK => ?_) AllReadyH.nil
    go_simp
    with_reducible refine (H1.out _ (HB.out.2.1.below hH.2)).mono ?_
    rintro e w1 ⟨rfl, hb1'⟩
    have hb1 : Below w.heap.size w w1 := below_next hH.2 hb1'
    try go_wp2_with fail
    refine hK.out _ _ (KP.out _ hb1) (fun hH1 => ?_)
    clear hK K hH
    have hH := hH1
    clear hH1
    try simp only [Act.put, List.getElem_toArray, List.getElem_cons_succ, List.getElem_cons_zero, List.setIfInBounds_toArray, List.set_cons_zero, List.set_cons_succ]
    refine wpAnyH_ready (rs := [9]) (by kernel_rfl) (by simp) ?_
    refine AllReadyH.cons rfl (fun K hK => ?_) AllReadyH.nil
    go_simp
    with_reducible refine (H2.out _ (HB.out.2.2.below hH.2)).mono ?_
    rintro e w2 ⟨rfl, hb2'⟩
    have hb2 : Below w.heap.size w w2 := below_next hH.2 hb2'
    try go_wp2_with fail
    refine hK.out _ _ (KP.out _ hb2) (fun hH2 => ?_)
    clear hK K hH
    have hH := hH2
    clear hH2
    try simp only [Act.put, List.getElem_toArray, List.getElem_cons_succ, List.getElem_cons_zero, List.setIfInBounds_toArray, List.set_cons_zero, List.set_cons_succ]
    first | (refine wpAnyH_take (i := 10) (v := undef) rfl ?_ ?_ ?_ (fun _ _ _ h => h) ?_ ?_ ?_; kernel_rfl; kernel_rfl; kernel_rfl; exact Or.inr ⟨by rfl, rfl⟩; exact hH) | (refine wpAnyH_take (i := 10) (v := ?_) rfl ?_ ?_ ?_ (fun _ _ _ h => h) ?_ ?_ ?_; rotate_left; kernel_rfl; kernel_rfl; kernel_rfl; (focus (refine Or.inl ⟨by rfl, ?_⟩; intro w' hSw; (try dsimp only at hSw); go_simp)); exact hH) | (refine wpAnyH_take (i := 10) (v := ?_) rfl ?_ ?_ ?_ (fun _ _ _ h => h) ?_ ?_ ?_; rotate_left; kernel_rfl; kernel_rfl; kernel_rfl; (focus (refine Or.inl ⟨by rfl, ?_⟩; intro w' hSw; (try dsimp only at hSw); go_simp; with_reducible rfl)); exact hH)
    try simp only [Act.put, List.getElem_toArray, List.getElem_cons_succ, List.getElem_cons_zero, List.setIfInBounds_toArray, List.set_cons_zero, List.set_cons_succ]
    first | (refine wpAnyH_take (i := 11) (v := undef) rfl ?_ ?_ ?_ (fun _ _ _ h => h) ?_ ?_ ?_; kernel_rfl; kernel_rfl; kernel_rfl; exact Or.inr ⟨by rfl, rfl⟩; exact hH) | (refine wpAnyH_take (i := 11) (v := ?_) rfl ?_ ?_ ?_ (fun _ _ _ h => h) ?_ ?_ ?_; rotate_left; kernel_rfl; kernel_rfl; kernel_rfl; (focus (refine Or.inl ⟨by rfl, ?_⟩; intro w' hSw; (try dsimp only at hSw); go_simp)); exact hH) | (refine wpAnyH_take (i := 11) (v := ?_) rfl ?_ ?_ ?_ (fun _ _ _ h => h) ?_ ?_ ?_; rotate_left; kernel_rfl; kernel_rfl; kernel_rfl; (focus (refine Or.inl ⟨by rfl, ?_⟩; intro w' hSw; (try dsimp only at hSw); go_simp; with_reducible rfl)); exact hH)
    try simp only [Act.put, List.getElem_toArray, List.getElem_cons_succ, List.getElem_cons_zero, List.setIfInBounds_toArray, List.set_cons_zero, List.set_cons_succ]
    first | (refine wpAnyH_take (i := 12) (v := undef) rfl ?_ ?_ ?_ (fun _ _ _ h => h) ?_ ?_ ?_; kernel_rfl; kernel_rfl; kernel_rfl; exact Or.inr ⟨by rfl, rfl⟩; exact hH) | (refine wpAnyH_take (i := 12) (v := ?_) rfl ?_ ?_ ?_ (fun _ _ _ h => h) ?_ ?_ ?_; rotate_left; kernel_rfl; kernel_rfl; kernel_rfl; (focus (refine Or.inl ⟨by rfl, ?_⟩; intro w' hSw; (try dsimp only at hSw); go_simp)); exact hH) | (refine wpAnyH_take (i := 12) (v := ?_) rfl ?_ ?_ ?_ (fun _ _ _ h => h) ?_ ?_ ?_; rotate_left; kernel_rfl; kernel_rfl; kernel_rfl; (focus (refine Or.inl ⟨by rfl, ?_⟩; intro w' hSw; (try dsimp only at hSw); go_simp; with_reducible rfl)); exact hH)
    try simp only [Act.put, List.getElem_toArray, List.getElem_cons_succ, List.getElem_cons_zero, List.setIfInBounds_toArray, List.set_cons_zero, List.set_cons_succ]
    refine wpAnyH_done (by kernel_rfl) ?_ _
    refine NoPanic.normal ?_
    clear hH
    have hy := Lib.hid hb2
    clear hb2
    go_wp2_with fail
    all_goals go_ret
    all_goals exact ⟨by have := QQ.out; simp; rw [IntKind.wrap_i64]; omega, hy.out⟩
theorem ru_height (T : Nat) (t : RB Int) (w : World) (h : TrIsU w T t) (hs : t.size ≤ 1000000) :
    Calls Try.prog 33 #[.pointer (some ⟨T, 0, none⟩)] w fun e w' => e = .returned (.int .i64 (t.height : Int)) ∧ Below w.heap.size w w' := by
  have HT := Lib.hid h
  have HH := Lib.hid (ru_nheight t w h.rep hs)
  clear h hs
  go_enter Try.func33, Try.ntmps33
  go_wp2_with fail
  with_reducible refine (ru_none T w HT.out.tre).mono ?_
  rintro e wx ⟨rfl, rfl⟩
  have x0 : w.cell? ⟨T, 2, none⟩ = some (.pointer (ptrO t)) := by rw [← ptrV_eq]; exact HT.out.blk.get 2 rfl
  go_wp2_with fail
  with_reducible refine HH.out.mono ?_
  rintro e wy ⟨rfl, hb⟩
  have hy := Lib.hid hb
  clear hb x0
  go_wp2_with fail
  go_ret
  exact ⟨rfl, hy.out⟩

end Go.Proofs.Ytjlnbpomncglcaa
