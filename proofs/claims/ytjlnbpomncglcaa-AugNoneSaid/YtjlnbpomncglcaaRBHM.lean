/-
  Red-black trees in memory (h): a tree put into.
-/
import Derived.Test.YtjlnbpomncglcaaProg
import Derived.Test.YtjlnbpomncglcaaRBHL
namespace Go.Proofs.Ytjlnbpomncglcaa
set_option linter.unusedVariables false
set_option linter.unusedSimpArgs false
set_option maxRecDepth 100000
open Go.RowKit

/-- What a change of a tree leaves: its own blocks alone may have changed. -/
structure TrToH (w w' : World) (T : Nat) (t t' : RB (Int × Int)) : Prop where
  is : TrIsH w' T t'
  fr : Fr (fun j => j = T ∨ j ∈ t.blocks) w w'
  blocks : ∀ x ∈ t'.blocks, x ∈ t.blocks ∨ w.heap.size ≤ x
theorem TrToH.same {w w' : World} {T : Nat} {t : RB (Int × Int)} (h : TrIsH w T t) (hb : Below w.heap.size w w') : TrToH w w' T t t := ⟨h.next hb, Fr.of_new hb, fun x hx => Or.inl hx⟩
def PutRH (w : World) (T : Nat) (k : RK) (v : Int) (t : RB (Int × Int)) (e : Ending) (w' : World) : Prop := ∃ t' : RB (Int × Int), e = .returned (.int .i64 0) ∧ TrToH w w' T t t' ∧ t'.items = ins k v t.items
set_option maxHeartbeats 16000000 in
theorem rh_Put_twice (T : Nat) (t : RB (Int × Int)) (k : RK) (v x : Int) (w : World) (h : TrIsH w T t) (hg : get k t.items = some x) :
    Calls Try.prog 83 #[.pointer (some ⟨T, 0, none⟩), .agg #[.int .u64 k.1, .int .i64 k.2], .int .u64 v] w fun e w' => e = .returned (.int .i64 80) ∧ Below w.heap.size w w' := by
  have HT := Lib.hid h
  have HG := Lib.hid hg
  clear h hg
  go_enter Try.func83, Try.ntmps83
  go_upto_region 1 with (fail)
  have hb0 : Below w.heap.size w (w.alloc (.cells #[.int .u64 k.1, .int .i64 k.2] 31)) := by go_grown
  have kb := Blk.new w 31 #[.int .u64 k.1, .int .i64 k.2]
  generalize w.alloc (.cells #[.int .u64 k.1, .int .i64 k.2] 31) = wa at hb0 kb ⊢
  have HB := Lib.hid hb0
  have k0 : wa.cell? ⟨w.heap.size, 0, none⟩ = some (.int .u64 k.1) := kb.get 0 rfl
  have k1 : wa.cell? ⟨w.heap.size, 1, none⟩ = some (.int .i64 k.2) := kb.get 1 rfl
  clear hb0 kb
  go_wp2_with fail
  with_reducible refine (rh_none T wa (HT.out.tre.below HB.out)).mono ?_
  rintro e wx ⟨rfl, rfl⟩
  go_wp2_with fail
  with_reducible refine (rh_at T t k wa (HT.out.next HB.out)).mono ?_
  rintro e w1 ⟨p, rfl, hp, hb1⟩
  have HB1 := Lib.hid (HB.out.trans (hb1.mono HB.out.size))
  unfold AtIsH at hp
  rw [HG.out] at hp
  obtain ⟨b, c, l, s, r, rfl, -, -⟩ := (show ∃ (b : Nat) (c : Bool) (l : RB (Int × Int)) (s : (Int × Int)) (r : RB (Int × Int)), p = .pointer (some ⟨b, 0, none⟩) ∧ Blk w1 b 138 #[.int .u64 k.1, .int .i64 k.2, .int .u64 x, .int .u64 s.1, .int .i64 s.2, .bool c, ptrV (l : RB (Int × Int)), ptrV (r : RB (Int × Int))] ∧ b ∈ t.blocks from hp)
  clear hb1 k0 k1 hp
  go_wp2_with fail
  go_ret
  exact ⟨rfl, HB1.out⟩
set_option maxHeartbeats 16000000 in
theorem rh_Put (T : Nat) (t : RB (Int × Int)) (k : RK) (v : Int) (w : World) (h : TrIsH w T t) (hg : get k t.items = none) (hl : t.items.length ≤ 1000000) :
    Calls Try.prog 83 #[.pointer (some ⟨T, 0, none⟩), .agg #[.int .u64 k.1, .int .i64 k.2], .int .u64 v] w fun e w' => PutRH w T k v t e w' := by
  have HT := Lib.hid h
  have HG := Lib.hid hg
  have HL := Lib.hid hl
  clear h hg hl
  go_enter Try.func83, Try.ntmps83
  go_upto_region 1 with (fail)
  have hb0 : Below w.heap.size w (w.alloc (.cells #[.int .u64 k.1, .int .i64 k.2] 31)) := by go_grown
  have kb := Blk.new w 31 #[.int .u64 k.1, .int .i64 k.2]
  generalize w.alloc (.cells #[.int .u64 k.1, .int .i64 k.2] 31) = wa at hb0 kb ⊢
  have HB := Lib.hid (And.intro hb0 kb)
  have k0 : wa.cell? ⟨w.heap.size, 0, none⟩ = some (.int .u64 k.1) := kb.get 0 rfl
  have k1 : wa.cell? ⟨w.heap.size, 1, none⟩ = some (.int .i64 k.2) := kb.get 1 rfl
  clear hb0 kb
  go_wp2_with fail
  with_reducible refine (rh_none T wa (HT.out.tre.below HB.out.1)).mono ?_
  rintro e wx ⟨rfl, rfl⟩
  go_wp2_with fail
  with_reducible refine (rh_at T t k wa (HT.out.next HB.out.1)).mono ?_
  rintro e w1 ⟨p, rfl, hp, hb1⟩
  unfold AtIsH at hp
  rw [HG.out] at hp
  have hp : p = .pointer none := hp
  subst hp
  have HB1 := Lib.hid (And.intro (HB.out.1.trans (hb1.mono HB.out.1.size)) (HB.out.2.next hb1))
  have HW := Lib.hid (HT.out.next HB1.out.1)
  clear hb1 k0 k1
  go_upto_region 5 with (fail)
  have hlt : ∀ x ∈ t.blocks, x < w.heap.size := fun x hx => HT.out.rep.lt x hx
  have HLT := Lib.hid (And.intro hlt (show w.heap.size ∉ t.blocks from fun hx => by have := hlt _ hx; omega))
  obtain ⟨n, hn⟩ := HT.out.well
  have HN := Lib.hid hn
  have HIC := Lib.hid (rh_put T k v t n w1.drew HN.out HT.out.rises (HW.out.rep.below (below_of_drew (Below.refl _ _))) HT.out.nd (HW.out.tre.below (below_of_drew (Below.refl _ _))) HT.out.out)
  clear hlt hn
  have KQ : Hid (∀ w', Fr ((fun j => j ∈ t.blocks)) w1 w' → (w'.cell? ⟨w.heap.size, 0, none⟩ = some (.int .u64 k.1) ∧ w'.cell? ⟨w.heap.size, 1, none⟩ = some (.int .i64 k.2) ∧ w'.cell? ⟨T, 2, none⟩ = some (.pointer (ptrO t))) ∧ Fr ((fun j => j ∈ t.blocks)) w1 w') := fun w' hb => ⟨⟨(HB1.out.2.fr hb HLT.out.2).get 0 rfl, (HB1.out.2.fr hb HLT.out.2).get 1 rfl, (by rw [← ptrV_eq]; exact (HW.out.blk.fr hb HT.out.out).get 2 rfl)⟩, hb⟩
  obtain ⟨wq, hwq⟩ : ∃ x : World, x = w1 := ⟨_, rfl⟩
  rw [← hwq] at HIC HW HB1 ⊢
  have KR : Hid (∀ w', Fr (fun j => j ∈ t.blocks) wq w' → (w'.cell? ⟨w.heap.size, 0, none⟩ = some (.int .u64 k.1) ∧ w'.cell? ⟨w.heap.size, 1, none⟩ = some (.int .i64 k.2) ∧ w'.cell? ⟨T, 2, none⟩ = some (.pointer (ptrO t))) ∧ Fr (fun j => j ∈ t.blocks) wq w') := by rw [hwq]; exact KQ
  clear KQ hwq
  have KQ : Hid (∀ w', Fr ((fun j => j ∈ t.blocks)) wq w' → (w'.cell? ⟨w.heap.size, 0, none⟩ = some (.int .u64 k.1) ∧ w'.cell? ⟨w.heap.size, 1, none⟩ = some (.int .i64 k.2) ∧ w'.cell? ⟨T, 2, none⟩ = some (.pointer (ptrO t))) ∧ Fr ((fun j => j ∈ t.blocks)) wq w') := fun w' hb => ⟨⟨(KR.out _ hb).1.1, (KR.out _ hb).1.2.1, (KR.out _ hb).1.2.2⟩, hb⟩
  clear KR
  refine wp_region_noPanic ?_
  refine wp_region_Z [11] (fun w' => (w'.cell? ⟨w.heap.size, 0, none⟩ = some (.int .u64 k.1) ∧ w'.cell? ⟨w.heap.size, 1, none⟩ = some (.int .i64 k.2) ∧ w'.cell? ⟨T, 2, none⟩ = some (.pointer (ptrO t))) ∧ Fr ((fun j => j ∈ t.blocks)) wq w') (by kernel_rfl) (KQ.out _ (Fr.drew ((Fr.refl (fun j => j ∈ t.blocks) wq)))) (fun hH => ?_)
  have hbR := Fr.drew ((Fr.refl (fun j => j ∈ t.blocks) wq))
  first | (refine wpAnyZ_take (i := 0) (v := undef) rfl ?_ ?_ ?_ ?_ (fun _ _ _ h => h) ?_ ?_ ?_; kernel_rfl; kernel_rfl; kernel_rfl; kernel_rfl; exact Or.inr ⟨by rfl, rfl⟩; exact hH) | (refine wpAnyZ_take (i := 0) (v := ?_) rfl ?_ ?_ ?_ ?_ (fun _ _ _ h => h) ?_ ?_ ?_; rotate_left; kernel_rfl; kernel_rfl; kernel_rfl; kernel_rfl; (focus (refine Or.inl ⟨by rfl, ?_⟩; intro w' hSw; (try dsimp only at hSw); go_simp)); exact hH) | (refine wpAnyZ_take (i := 0) (v := ?_) rfl ?_ ?_ ?_ ?_ (fun _ _ _ h => h) ?_ ?_ ?_; rotate_left; kernel_rfl; kernel_rfl; kernel_rfl; kernel_rfl; (focus (refine Or.inl ⟨by rfl, ?_⟩; intro w' hSw; (try dsimp only at hSw); go_simp; with_reducible rfl)); exact hH)
  try simp only [Act.put, List.getElem_toArray, List.getElem_cons_succ, List.getElem_cons_zero, List.setIfInBounds_toArray, List.set_cons_zero, List.set_cons_succ]
  first | (refine wpAnyZ_take (i := 1) (v := undef) rfl ?_ ?_ ?_ ?_ (fun _ _ _ h => h) ?_ ?_ ?_; kernel_rfl; kernel_rfl; kernel_rfl; kernel_rfl; exact Or.inr ⟨by rfl, rfl⟩; exact hH) | (refine wpAnyZ_take (i := 1) (v := ?_) rfl ?_ ?_ ?_ ?_ (fun _ _ _ h => h) ?_ ?_ ?_; rotate_left; kernel_rfl; kernel_rfl; kernel_rfl; kernel_rfl; (focus (refine Or.inl ⟨by rfl, ?_⟩; intro w' hSw; (try dsimp only at hSw); go_simp)); exact hH) | (refine wpAnyZ_take (i := 1) (v := ?_) rfl ?_ ?_ ?_ ?_ (fun _ _ _ h => h) ?_ ?_ ?_; rotate_left; kernel_rfl; kernel_rfl; kernel_rfl; kernel_rfl; (focus (refine Or.inl ⟨by rfl, ?_⟩; intro w' hSw; (try dsimp only at hSw); go_simp; with_reducible rfl)); exact hH)
  try simp only [Act.put, List.getElem_toArray, List.getElem_cons_succ, List.getElem_cons_zero, List.setIfInBounds_toArray, List.set_cons_zero, List.set_cons_succ]
  first | (refine wpAnyZ_take (i := 2) (v := undef) rfl ?_ ?_ ?_ ?_ (fun _ _ _ h => h) ?_ ?_ ?_; kernel_rfl; kernel_rfl; kernel_rfl; kernel_rfl; exact Or.inr ⟨by rfl, rfl⟩; exact hH) | (refine wpAnyZ_take (i := 2) (v := ?_) rfl ?_ ?_ ?_ ?_ (fun _ _ _ h => h) ?_ ?_ ?_; rotate_left; kernel_rfl; kernel_rfl; kernel_rfl; kernel_rfl; (focus (refine Or.inl ⟨by rfl, ?_⟩; intro w' hSw; (try dsimp only at hSw); go_simp)); exact hH) | (refine wpAnyZ_take (i := 2) (v := ?_) rfl ?_ ?_ ?_ ?_ (fun _ _ _ h => h) ?_ ?_ ?_; rotate_left; kernel_rfl; kernel_rfl; kernel_rfl; kernel_rfl; (focus (refine Or.inl ⟨by rfl, ?_⟩; intro w' hSw; (try dsimp only at hSw); go_simp; with_reducible rfl)); exact hH)
  try simp only [Act.put, List.getElem_toArray, List.getElem_cons_succ, List.getElem_cons_zero, List.setIfInBounds_toArray, List.set_cons_zero, List.set_cons_succ]
  first | (refine wpAnyZ_take (i := 3) (v := undef) rfl ?_ ?_ ?_ ?_ (fun _ _ _ h => h) ?_ ?_ ?_; kernel_rfl; kernel_rfl; kernel_rfl; kernel_rfl; exact Or.inr ⟨by rfl, rfl⟩; exact hH) | (refine wpAnyZ_take (i := 3) (v := ?_) rfl ?_ ?_ ?_ ?_ (fun _ _ _ h => h) ?_ ?_ ?_; rotate_left; kernel_rfl; kernel_rfl; kernel_rfl; kernel_rfl; (focus (refine Or.inl ⟨by rfl, ?_⟩; intro w' hSw; (try dsimp only at hSw); go_simp)); exact hH) | (refine wpAnyZ_take (i := 3) (v := ?_) rfl ?_ ?_ ?_ ?_ (fun _ _ _ h => h) ?_ ?_ ?_; rotate_left; kernel_rfl; kernel_rfl; kernel_rfl; kernel_rfl; (focus (refine Or.inl ⟨by rfl, ?_⟩; intro w' hSw; (try dsimp only at hSw); go_simp; with_reducible rfl)); exact hH)
  try simp only [Act.put, List.getElem_toArray, List.getElem_cons_succ, List.getElem_cons_zero, List.setIfInBounds_toArray, List.set_cons_zero, List.set_cons_succ]
  first | (refine wpAnyZ_take (i := 4) (v := undef) rfl ?_ ?_ ?_ ?_ (fun _ _ _ h => h) ?_ ?_ ?_; kernel_rfl; kernel_rfl; kernel_rfl; kernel_rfl; exact Or.inr ⟨by rfl, rfl⟩; exact hH) | (refine wpAnyZ_take (i := 4) (v := ?_) rfl ?_ ?_ ?_ ?_ (fun _ _ _ h => h) ?_ ?_ ?_; rotate_left; kernel_rfl; kernel_rfl; kernel_rfl; kernel_rfl; (focus (refine Or.inl ⟨by rfl, ?_⟩; intro w' hSw; (try dsimp only at hSw); go_simp)); exact hH) | (refine wpAnyZ_take (i := 4) (v := ?_) rfl ?_ ?_ ?_ ?_ (fun _ _ _ h => h) ?_ ?_ ?_; rotate_left; kernel_rfl; kernel_rfl; kernel_rfl; kernel_rfl; (focus (refine Or.inl ⟨by rfl, ?_⟩; intro w' hSw; (try dsimp only at hSw); go_simp; with_reducible rfl)); exact hH)
  try simp only [Act.put, List.getElem_toArray, List.getElem_cons_succ, List.getElem_cons_zero, List.setIfInBounds_toArray, List.set_cons_zero, List.set_cons_succ]
  first | (refine wpAnyZ_take (i := 5) (v := undef) rfl ?_ ?_ ?_ ?_ (fun _ _ _ h => h) ?_ ?_ ?_; kernel_rfl; kernel_rfl; kernel_rfl; kernel_rfl; exact Or.inr ⟨by rfl, rfl⟩; exact hH) | (refine wpAnyZ_take (i := 5) (v := ?_) rfl ?_ ?_ ?_ ?_ (fun _ _ _ h => h) ?_ ?_ ?_; rotate_left; kernel_rfl; kernel_rfl; kernel_rfl; kernel_rfl; (focus (refine Or.inl ⟨by rfl, ?_⟩; intro w' hSw; (try dsimp only at hSw); go_simp)); exact hH) | (refine wpAnyZ_take (i := 5) (v := ?_) rfl ?_ ?_ ?_ ?_ (fun _ _ _ h => h) ?_ ?_ ?_; rotate_left; kernel_rfl; kernel_rfl; kernel_rfl; kernel_rfl; (focus (refine Or.inl ⟨by rfl, ?_⟩; intro w' hSw; (try dsimp only at hSw); go_simp; with_reducible rfl)); exact hH)
  try simp only [Act.put, List.getElem_toArray, List.getElem_cons_succ, List.getElem_cons_zero, List.setIfInBounds_toArray, List.set_cons_zero, List.set_cons_succ]
  first | (refine wpAnyZ_take (i := 6) (v := undef) rfl ?_ ?_ ?_ ?_ (fun _ _ _ h => h) ?_ ?_ ?_; kernel_rfl; kernel_rfl; kernel_rfl; kernel_rfl; exact Or.inr ⟨by rfl, rfl⟩; exact hH) | (refine wpAnyZ_take (i := 6) (v := ?_) rfl ?_ ?_ ?_ ?_ (fun _ _ _ h => h) ?_ ?_ ?_; rotate_left; kernel_rfl; kernel_rfl; kernel_rfl; kernel_rfl; (focus (refine Or.inl ⟨by rfl, ?_⟩; intro w' hSw; (try dsimp only at hSw); go_simp)); exact hH) | (refine wpAnyZ_take (i := 6) (v := ?_) rfl ?_ ?_ ?_ ?_ (fun _ _ _ h => h) ?_ ?_ ?_; rotate_left; kernel_rfl; kernel_rfl; kernel_rfl; kernel_rfl; (focus (refine Or.inl ⟨by rfl, ?_⟩; intro w' hSw; (try dsimp only at hSw); go_simp; with_reducible rfl)); exact hH)
  try simp only [Act.put, List.getElem_toArray, List.getElem_cons_succ, List.getElem_cons_zero, List.setIfInBounds_toArray, List.set_cons_zero, List.set_cons_succ]
  first | (refine wpAnyZ_take (i := 7) (v := undef) rfl ?_ ?_ ?_ ?_ (fun _ _ _ h => h) ?_ ?_ ?_; kernel_rfl; kernel_rfl; kernel_rfl; kernel_rfl; exact Or.inr ⟨by rfl, rfl⟩; exact hH) | (refine wpAnyZ_take (i := 7) (v := ?_) rfl ?_ ?_ ?_ ?_ (fun _ _ _ h => h) ?_ ?_ ?_; rotate_left; kernel_rfl; kernel_rfl; kernel_rfl; kernel_rfl; (focus (refine Or.inl ⟨by rfl, ?_⟩; intro w' hSw; (try dsimp only at hSw); go_simp)); exact hH) | (refine wpAnyZ_take (i := 7) (v := ?_) rfl ?_ ?_ ?_ ?_ (fun _ _ _ h => h) ?_ ?_ ?_; rotate_left; kernel_rfl; kernel_rfl; kernel_rfl; kernel_rfl; (focus (refine Or.inl ⟨by rfl, ?_⟩; intro w' hSw; (try dsimp only at hSw); go_simp; with_reducible rfl)); exact hH)
  try simp only [Act.put, List.getElem_toArray, List.getElem_cons_succ, List.getElem_cons_zero, List.setIfInBounds_toArray, List.set_cons_zero, List.set_cons_succ]
  refine wpAnyZ_ready (rs := [8]) (by kernel_rfl) (by simp) ?_
  refine (AllReadyZ.cons rfl (fun K hK => ?_) AllReadyZ.nil)
  go_simp
  with_reducible refine HIC.out.mono ?_
  rintro e w1 ⟨t2, nb, rfl, hd⟩
  have fr1 : Fr (fun j => j ∈ t.blocks) wq w1 := hH.2.trans hd.fr
  have bk1 := HW.out.blk.fr fr1 HT.out.out
  have HD := Lib.hid (And.intro hd (And.intro fr1 bk1))
  have ff1 := bk1.frozen 2
  have cc1 : w1.cell? ⟨T, 2, none⟩ = some (.pointer (ptrO t)) := by rw [← ptrV_eq]; exact bk1.get 2 rfl
  clear hd bk1
  try go_wp2_with fail
  have hH1 := KQ.out _ fr1
  refine hK.out _ _ (fun _ => hH1) ?_
  clear hK K hH
  have hH := hH1
  clear hH1
  try simp only [Act.put, List.getElem_toArray, List.getElem_cons_succ, List.getElem_cons_zero, List.setIfInBounds_toArray, List.set_cons_zero, List.set_cons_succ]
  refine wpAnyZ_ready (rs := [9]) (by kernel_rfl) (by simp) ?_
  refine (AllReadyZ.cons rfl (fun K hK => ?_) AllReadyZ.nil)
  go_simp
  refine hK.out _ _ (fun _ => hH) ?_
  clear hK K
  try simp only [Act.put, List.getElem_toArray, List.getElem_cons_succ, List.getElem_cons_zero, List.setIfInBounds_toArray, List.set_cons_zero, List.set_cons_succ]
  first | (refine wpAnyZ_take (i := 10) (v := undef) rfl ?_ ?_ ?_ ?_ (fun _ _ _ h => h) ?_ ?_ ?_; kernel_rfl; kernel_rfl; kernel_rfl; kernel_rfl; exact Or.inr ⟨by rfl, rfl⟩; exact hH) | (refine wpAnyZ_take (i := 10) (v := ?_) rfl ?_ ?_ ?_ ?_ (fun _ _ _ h => h) ?_ ?_ ?_; rotate_left; kernel_rfl; kernel_rfl; kernel_rfl; kernel_rfl; (focus (refine Or.inl ⟨by rfl, ?_⟩; intro w' hSw; (try dsimp only at hSw); go_simp)); exact hH) | (refine wpAnyZ_take (i := 10) (v := ?_) rfl ?_ ?_ ?_ ?_ (fun _ _ _ h => h) ?_ ?_ ?_; rotate_left; kernel_rfl; kernel_rfl; kernel_rfl; kernel_rfl; (focus (refine Or.inl ⟨by rfl, ?_⟩; intro w' hSw; (try dsimp only at hSw); go_simp; with_reducible rfl)); exact hH)
  try simp only [Act.put, List.getElem_toArray, List.getElem_cons_succ, List.getElem_cons_zero, List.setIfInBounds_toArray, List.set_cons_zero, List.set_cons_succ]
  refine wpAnyZ_ready (rs := [11]) (by kernel_rfl) (by simp) ?_
  refine (AllReadyZ.cons rfl (fun K hK => ?_) AllReadyZ.nil)
  go_simp
  refine hK.out _ _ (fun h => absurd (by simp) h) ?_
  clear hK K
  try simp only [Act.put, List.getElem_toArray, List.getElem_cons_succ, List.getElem_cons_zero, List.setIfInBounds_toArray, List.set_cons_zero, List.set_cons_succ]
  refine wpAnyZ_done (by kernel_rfl) ?_ _
  refine NoPanic.normal ?_
  skip
  clear ff1 cc1 fr1 KQ HIC
  -- the new root
  have hne : ∃ b c l kk vv s r, t2 = .node b c l kk vv s r := by
    cases t2 with
    | nil =>
      have h := congrArg List.length HD.out.1.items
      rw [ins_length] at h
      simp [RB.items] at h
    | node b c l kk vv s r => exact ⟨b, c, l, kk, vv, s, r, rfl⟩
  obtain ⟨b, c, l, kk, vv, s, r, rfl⟩ := hne
  have hmem : ∀ x ∈ (RB.node b c l kk vv s r).blocks, x ∈ t.blocks ∨ w.heap.size ≤ x := fun x hx => by
    rcases List.mem_cons.1 (HD.out.1.perm.mem_iff.1 hx) with e | hx
    · right; rw [e]; exact Nat.le_trans HB1.out.1.size HD.out.1.ge
    · exact Or.inl hx
  have hTlt : T < w.heap.size := HT.out.blk.lt
  have hTo : T ∉ (RB.node b c l kk vv s r).blocks := fun hx => by
    rcases hmem T hx with h | h
    · exact HT.out.out h
    · omega
  have hbT : b ≠ T := fun e => hTo (by rw [← e]; exact List.mem_cons_self ..)
  have hnd : (RB.node b c l kk vv s r).blocks.Nodup := by
    refine HD.out.1.perm.nodup_iff.2 (List.nodup_cons.2 ⟨fun hx => ?_, HT.out.nd⟩)
    have h1 := HLT.out.1 _ hx
    have h2 := HD.out.1.ge
    have h3 := HB1.out.1.size
    have h4 : wq.heap.size ≤ wq.drew.heap.size := Nat.le_refl _
    omega
  have hbl : b ∉ l.blocks ∧ b ∉ r.blocks := by
    have h := hnd
    simp only [RB.blocks, List.nodup_cons, List.mem_append, not_or] at h
    exact h.1
  have HM := Lib.hid (And.intro hmem (And.intro hTo (And.intro hbT (And.intro hnd hbl))))
  clear hmem hTlt hTo hbT hnd hbl
  have hrep : Blk w1 b 138 #[.int .u64 kk.1, .int .i64 kk.2, .int .u64 vv, .int .u64 s.1, .int .i64 s.2, .bool c, ptrV l, ptrV r] ∧ RepH w1 l ∧ RepH w1 r := HD.out.1.rep
  have bT2 : Blk (w1.setCell ⟨T, 2, none⟩ (.pointer (some ⟨b, 0, none⟩))) T 135 #[(.func (.func 86) #[] #[]), (.func (.func 87) #[] #[]), .pointer (some ⟨b, 0, none⟩), .int .i64 (t.items.length : Int)] := HD.out.2.2.put 2 _
  have F2 : Fr (fun j => j = T) w1 (w1.setCell ⟨T, 2, none⟩ (.pointer (some ⟨b, 0, none⟩))) := (Fr.refl (fun j => j = T) w1).setCell (p := ⟨T, 2, none⟩) (fun _ => rfl) _
  have HV := Lib.hid (And.intro bT2 (And.intro F2 (And.intro (hrep.1.fr F2 HM.out.2.2.1) (And.intro (RepH.fr F2 hrep.2.1 (fun x hx e => HM.out.2.1 (by rw [← e]; exact List.mem_cons_of_mem _ (List.mem_append.2 (Or.inl hx))))) (RepH.fr F2 hrep.2.2 (fun x hx e => HM.out.2.1 (by rw [← e]; exact List.mem_cons_of_mem _ (List.mem_append.2 (Or.inr hx)))))))))
  clear hrep bT2 F2
  rw [node_ptr]
  obtain ⟨wp, hwp⟩ : ∃ x : World, x = w1 := ⟨_, rfl⟩
  rw [← hwp] at HV HD ⊢
  clear hwp
  generalize wp.setCell ⟨T, 2, none⟩ (.pointer (some ⟨b, 0, none⟩)) = w2 at HV ⊢
  have x0 : w2.cell? ⟨T, 2, none⟩ = some (.pointer (some ⟨b, 0, none⟩)) := HV.out.1.get 2 rfl
  have x1 : w2.cell? ⟨b, 5, none⟩ = some (.bool c) := HV.out.2.2.1.get 5 rfl
  have x2 : w2.cell? ⟨T, 3, none⟩ = some (.int .i64 (t.items.length : Int)) := HV.out.1.get 3 rfl
  have f1 := HV.out.2.2.1.frozen 5
  have f2 := HV.out.1.frozen 3
  have hbT := HM.out.2.2.1
  have hTb := Ne.symm hbT
  have ew : wrap64 ((t.items.length : Int) + 1) = ((t.items.length + 1 : Nat) : Int) := by have := HL.out; unfold wrap64; omega
  go_wp2_with fail
  go_ret
  have F3 : Fr (fun j => j = T ∨ j = b) w2 ((w2.setCell ⟨b, 5, none⟩ (.bool false)).setCell ⟨T, 3, none⟩ (.int .i64 ((t.items.length + 1 : Nat) : Int))) := (((Fr.refl _ w2).setCell (p := ⟨b, 5, none⟩) (fun _ => Or.inr rfl) _).setCell (p := ⟨T, 3, none⟩) (fun _ => Or.inl rfl) _)
  refine ⟨RB.black (.node b c l kk vv s r), rfl, ⟨⟨?_, ?_, ?_, ?_, ?_, rfl, ?_⟩, ?_, ?_⟩, ?_⟩
  · have h1 := (HV.out.1.far (p := ⟨b, 5, none⟩) hTb (.bool false)).put 3 (.int .i64 ((t.items.length + 1 : Nat) : Int))
    have e : ((RB.black (.node b c l kk vv s r) : RB (Int × Int)).items.length : Int) = ((t.items.length + 1 : Nat) : Int) := by rw [RB.items_black, HD.out.1.items, ins_length]
    rw [e]
    exact h1
  · refine ⟨(HV.out.2.2.1.put 5 (.bool false)).far (p := ⟨T, 3, none⟩) hbT _, RepH.fr F3 HV.out.2.2.2.1 (fun x hx => ?_), RepH.fr F3 HV.out.2.2.2.2 (fun x hx => ?_)⟩
    · rintro (e | e)
      · exact HM.out.2.1 (by rw [← e]; exact List.mem_cons_of_mem _ (List.mem_append.2 (Or.inl hx)))
      · exact HM.out.2.2.2.2.1 (e ▸ hx)
    · rintro (e | e)
      · exact HM.out.2.1 (by rw [← e]; exact List.mem_cons_of_mem _ (List.mem_append.2 (Or.inr hx)))
      · exact HM.out.2.2.2.2.2 (e ▸ hx)
  · rw [RB.blocks_black]; exact HM.out.2.2.2.1
  · rw [RB.blocks_black]; exact HM.out.2.1
  · exact RB.put_root HD.out.1.post HT.out.black
  · rw [RB.items_black, HD.out.1.items]; exact ins_rises HT.out.rises HG.out
  · have FA : Fr (fun j => j = T ∨ j ∈ t.blocks ∨ j ∈ (RB.node b c l kk vv s r).blocks) w _ := (Fr.of_new HB1.out.1).trans ((HD.out.2.1.mono fun j _ hj => Or.inr (Or.inl hj)).trans ((HV.out.2.1.mono fun j _ hj => Or.inl hj).trans (F3.mono fun j _ hj => hj.elim Or.inl (fun e => Or.inr (Or.inr (by rw [e]; exact List.mem_cons_self ..))))))
    refine FA.mono fun j h1 hj => ?_
    rcases hj with h | h | h
    · exact Or.inl h
    · exact Or.inr h
    · rcases HM.out.1 j h with h2 | h2
      · exact Or.inr h2
      · omega
  · rw [RB.blocks_black]; exact HM.out.1
  · rw [RB.items_black]; exact HD.out.1.items

end Go.Proofs.Ytjlnbpomncglcaa
