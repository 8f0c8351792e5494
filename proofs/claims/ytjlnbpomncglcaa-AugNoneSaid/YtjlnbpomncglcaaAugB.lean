/-
  Aug's trees: Put, Get.
-/
import Derived.Test.YtjlnbpomncglcaaProg
import Derived.Test.YtjlnbpomncglcaaAugA
namespace Go.Proofs.Ytjlnbpomncglcaa
set_option linter.unusedVariables false
set_option linter.unusedSimpArgs false
set_option maxRecDepth 100000
open Go.RowKit Go.Shelf

attribute [local go_sem] Oper.semAt_some

theorem map_step {w w' : World} {U T m : Nat} {t : RB (Int × Int)} {M : IMap} {cs : Array Value} {ty : TypeId} (hb : Blk w U ty cs) (ht : TrIsH w T t) (hm : MpAt w m M) (hf : Fr (fun j => j = m) w w') : Blk w' U ty cs ∧ TrIsH w' T t :=
  ⟨hb.fr hf fun e => hm.ne hb e, ht.fr hf (fun e => hm.ne ht.blk e) fun x hx e => by
    obtain ⟨cs, hc⟩ := RepH.node ht.rep x hx
    exact hm.ne hc e⟩
set_option maxHeartbeats 4000000 in
theorem ag_put (U : Nat) (S : Nat → Prop) (L : Row) (id key v : Int) (w : World) (h : Aug w S U L) (hf : L.length ≤ 65535) :
    Calls Try.prog 53 #[.pointer (some ⟨U, 0, none⟩), .int .i64 id, .int .u64 key, .int .u64 v] w fun e w' => e = .returned (.tuple #[]) ∧ AugTo w w' S U (aput id key v L) := by
  have H0 := Lib.hid h
  have HF := Lib.hid hf
  have DR := Lib.hid (ag_drop U S L id w h hf)
  obtain ⟨bd, hbd⟩ : ∃ b, agIs id L = b := ⟨_, rfl⟩
  rw [hbd] at DR
  obtain ⟨T0, m0, t0, M0, h0⟩ := h
  have HB0 := Lib.hid h0.blk
  clear h0 hf hbd
  go_enter Try.func53, Try.ntmps53
  go_wp2_with fail
  with_reducible refine (ag_of w U _ _ HB0.out).mono ?_
  rintro e wx ⟨rfl, rfl⟩
  go_wp2_with fail
  with_reducible refine (DR.out).mono ?_
  rintro e w1 ⟨rfl, S1, ⟨T, m, t, M, h1⟩, hf1, hs1⟩
  have H1 := Lib.hid (And.intro h1 (And.intro hf1 hs1))
  clear h1 hf1 hs1 DR
  go_upto_region 3 with (fail)
  obtain ⟨wa, hwa⟩ : ∃ x, w1.alloc (.cells #[.int .u64 key, .int .i64 id] 31) = x := ⟨_, rfl⟩
  have hba : Below w1.heap.size w1 wa := by rw [← hwa]; go_grown
  have bk : Blk wa w1.heap.size 31 #[.int .u64 key, .int .i64 id] := by rw [← hwa]; exact Blk.new w1 _ _
  rw [hwa]
  have HA := Lib.hid (And.intro (H1.out.1.next hba) (And.intro hba bk))
  have c0 := HA.out.1.blk.get 0 rfl
  have k0 := HA.out.2.2.get 0 rfl
  have k1 := HA.out.2.2.get 1 rfl
  have PT := Lib.hid (rh_Put T t (key, id) v wa.drew (HA.out.1.tree.next (below_of_drew (Below.refl _ _))) (by rw [HA.out.1.items]; exact get_no (k := (key, id)) (afind_dropped id L)) (by rw [HA.out.1.items]; have := dropId_len id L; have := HF.out; omega))
  clear hwa hba bk
  go_still_tail 6, (by kernel_rfl)
  go_wp2_with fail
  with_reducible refine (PT.out).mono ?_
  rintro e w2 ⟨t', rfl, ht, hi⟩
  have HNS : Hid (w1.heap.size ≠ T ∧ w1.heap.size ∉ t.blocks) := ⟨fun e => by have := H1.out.1.tree.blk.lt; omega, fun e => by have := RepH.lt H1.out.1.tree.rep _ e; omega⟩
  have HP : Hid (TrToH wa w2 T t t' ∧ t'.items = ins (key, id) v (dropId id L) ∧ Blk w2 w1.heap.size 31 #[.int .u64 key, .int .i64 id]) := by
    have hd : Fr (fun j => j = T ∨ j ∈ t.blocks) wa w2 := (Fr.refl _ wa).drew.trans ht.fr
    exact ⟨⟨ht.is, hd, ht.blocks⟩, by rw [hi, HA.out.1.items], HA.out.2.2.fr hd (by rintro (e | e); exact HNS.out.1 e; exact HNS.out.2 e)⟩
  have HS := Lib.hid (HA.out.1.step HP.out.1)
  have HT2 := Lib.hid HP.out.1.is
  clear ht hi PT c0 k0 k1
  obtain ⟨w3, hrun, hm3, hf3⟩ := (HS.out.2.1.next (below_of_drew (Below.refl w2.heap.size w2))).store map_desc int_desc id (.agg #[.int .u64 key, .int .i64 id])
  have H3 : Hid (MpAt w3 m (mput id (encK (key, id)) M) ∧ Fr (fun j => j = m) w2 w3) := ⟨hm3, (Fr.refl _ w2).drew.trans hf3⟩
  clear hm3 hf3
  have KQ : Hid (∀ w', Below (w2.heap.size) w2 w' → (w'.cell? ⟨U, 1, none⟩ = some (.map (some m)) ∧ w'.cell? ⟨w1.heap.size, 0, none⟩ = some (.int .u64 key) ∧ w'.cell? ⟨w1.heap.size, 1, none⟩ = some (.int .i64 id)) ∧ Below (w2.heap.size) w2 w') := fun w' hb => ⟨⟨(HS.out.1.next hb).get 1 rfl, (HP.out.2.2.next hb).get 0 rfl, (HP.out.2.2.next hb).get 1 rfl⟩, hb⟩
  go_upto_region 4 with (fail)
  refine wp_region_noPanic ?_
  refine wp_region_Z [6] (fun w' => (w'.cell? ⟨U, 1, none⟩ = some (.map (some m)) ∧ w'.cell? ⟨w1.heap.size, 0, none⟩ = some (.int .u64 key) ∧ w'.cell? ⟨w1.heap.size, 1, none⟩ = some (.int .i64 id)) ∧ Below (w2.heap.size) w2 w') (by kernel_rfl) (KQ.out _ (below_of_drew (Below.refl w2.heap.size w2))) (fun hH => ?_)
  have hbR := below_of_drew (Below.refl w2.heap.size w2)
  first | (refine wpAnyZ_take (i := 0) (v := undef) rfl ?_ ?_ ?_ ?_ (fun _ _ _ h => h) ?_ ?_ ?_; kernel_rfl; kernel_rfl; kernel_rfl; kernel_rfl; exact Or.inr ⟨by rfl, rfl⟩; exact hH) | (refine wpAnyZ_take (i := 0) (v := ?_) rfl ?_ ?_ ?_ ?_ (fun _ _ _ h => h) ?_ ?_ ?_; rotate_left; kernel_rfl; kernel_rfl; kernel_rfl; kernel_rfl; (focus (refine Or.inl ⟨by rfl, ?_⟩; intro w' hSw; (try dsimp only at hSw); go_simp)); exact hH) | (refine wpAnyZ_take (i := 0) (v := ?_) rfl ?_ ?_ ?_ ?_ (fun _ _ _ h => h) ?_ ?_ ?_; rotate_left; kernel_rfl; kernel_rfl; kernel_rfl; kernel_rfl; (focus (refine Or.inl ⟨by rfl, ?_⟩; intro w' hSw; (try dsimp only at hSw); go_simp; with_reducible rfl)); exact hH)
  try simp only [Act.put, List.getElem_toArray, List.getElem_cons_succ, List.getElem_cons_zero, List.setIfInBounds_toArray, List.set_cons_zero, List.set_cons_succ]
  first | (refine wpAnyZ_take (i := 1) (v := undef) rfl ?_ ?_ ?_ ?_ (fun _ _ _ h => h) ?_ ?_ ?_; kernel_rfl; kernel_rfl; kernel_rfl; kernel_rfl; exact Or.inr ⟨by rfl, rfl⟩; exact hH) | (refine wpAnyZ_take (i := 1) (v := ?_) rfl ?_ ?_ ?_ ?_ (fun _ _ _ h => h) ?_ ?_ ?_; rotate_left; kernel_rfl; kernel_rfl; kernel_rfl; kernel_rfl; (focus (refine Or.inl ⟨by rfl, ?_⟩; intro w' hSw; (try dsimp only at hSw); go_simp)); exact hH) | (refine wpAnyZ_take (i := 1) (v := ?_) rfl ?_ ?_ ?_ ?_ (fun _ _ _ h => h) ?_ ?_ ?_; rotate_left; kernel_rfl; kernel_rfl; kernel_rfl; kernel_rfl; (focus (refine Or.inl ⟨by rfl, ?_⟩; intro w' hSw; (try dsimp only at hSw); go_simp; with_reducible rfl)); exact hH)
  try simp only [Act.put, List.getElem_toArray, List.getElem_cons_succ, List.getElem_cons_zero, List.setIfInBounds_toArray, List.set_cons_zero, List.set_cons_succ]
  first | (refine wpAnyZ_take (i := 2) (v := undef) rfl ?_ ?_ ?_ ?_ (fun _ _ _ h => h) ?_ ?_ ?_; kernel_rfl; kernel_rfl; kernel_rfl; kernel_rfl; exact Or.inr ⟨by rfl, rfl⟩; exact hH) | (refine wpAnyZ_take (i := 2) (v := ?_) rfl ?_ ?_ ?_ ?_ (fun _ _ _ h => h) ?_ ?_ ?_; rotate_left; kernel_rfl; kernel_rfl; kernel_rfl; kernel_rfl; (focus (refine Or.inl ⟨by rfl, ?_⟩; intro w' hSw; (try dsimp only at hSw); go_simp)); exact hH) | (refine wpAnyZ_take (i := 2) (v := ?_) rfl ?_ ?_ ?_ ?_ (fun _ _ _ h => h) ?_ ?_ ?_; rotate_left; kernel_rfl; kernel_rfl; kernel_rfl; kernel_rfl; (focus (refine Or.inl ⟨by rfl, ?_⟩; intro w' hSw; (try dsimp only at hSw); go_simp; with_reducible rfl)); exact hH)
  try simp only [Act.put, List.getElem_toArray, List.getElem_cons_succ, List.getElem_cons_zero, List.setIfInBounds_toArray, List.set_cons_zero, List.set_cons_succ]
  first | (refine wpAnyZ_take (i := 3) (v := undef) rfl ?_ ?_ ?_ ?_ (fun _ _ _ h => h) ?_ ?_ ?_; kernel_rfl; kernel_rfl; kernel_rfl; kernel_rfl; exact Or.inr ⟨by rfl, rfl⟩; exact hH) | (refine wpAnyZ_take (i := 3) (v := ?_) rfl ?_ ?_ ?_ ?_ (fun _ _ _ h => h) ?_ ?_ ?_; rotate_left; kernel_rfl; kernel_rfl; kernel_rfl; kernel_rfl; (focus (refine Or.inl ⟨by rfl, ?_⟩; intro w' hSw; (try dsimp only at hSw); go_simp)); exact hH) | (refine wpAnyZ_take (i := 3) (v := ?_) rfl ?_ ?_ ?_ ?_ (fun _ _ _ h => h) ?_ ?_ ?_; rotate_left; kernel_rfl; kernel_rfl; kernel_rfl; kernel_rfl; (focus (refine Or.inl ⟨by rfl, ?_⟩; intro w' hSw; (try dsimp only at hSw); go_simp; with_reducible rfl)); exact hH)
  try simp only [Act.put, List.getElem_toArray, List.getElem_cons_succ, List.getElem_cons_zero, List.setIfInBounds_toArray, List.set_cons_zero, List.set_cons_succ]
  first | (refine wpAnyZ_take (i := 4) (v := undef) rfl ?_ ?_ ?_ ?_ (fun _ _ _ h => h) ?_ ?_ ?_; kernel_rfl; kernel_rfl; kernel_rfl; kernel_rfl; exact Or.inr ⟨by rfl, rfl⟩; exact hH) | (refine wpAnyZ_take (i := 4) (v := ?_) rfl ?_ ?_ ?_ ?_ (fun _ _ _ h => h) ?_ ?_ ?_; rotate_left; kernel_rfl; kernel_rfl; kernel_rfl; kernel_rfl; (focus (refine Or.inl ⟨by rfl, ?_⟩; intro w' hSw; (try dsimp only at hSw); go_simp)); exact hH) | (refine wpAnyZ_take (i := 4) (v := ?_) rfl ?_ ?_ ?_ ?_ (fun _ _ _ h => h) ?_ ?_ ?_; rotate_left; kernel_rfl; kernel_rfl; kernel_rfl; kernel_rfl; (focus (refine Or.inl ⟨by rfl, ?_⟩; intro w' hSw; (try dsimp only at hSw); go_simp; with_reducible rfl)); exact hH)
  try simp only [Act.put, List.getElem_toArray, List.getElem_cons_succ, List.getElem_cons_zero, List.setIfInBounds_toArray, List.set_cons_zero, List.set_cons_succ]
  first | (refine wpAnyZ_take (i := 5) (v := undef) rfl ?_ ?_ ?_ ?_ (fun _ _ _ h => h) ?_ ?_ ?_; kernel_rfl; kernel_rfl; kernel_rfl; kernel_rfl; exact Or.inr ⟨by rfl, rfl⟩; exact hH) | (refine wpAnyZ_take (i := 5) (v := ?_) rfl ?_ ?_ ?_ ?_ (fun _ _ _ h => h) ?_ ?_ ?_; rotate_left; kernel_rfl; kernel_rfl; kernel_rfl; kernel_rfl; (focus (refine Or.inl ⟨by rfl, ?_⟩; intro w' hSw; (try dsimp only at hSw); go_simp)); exact hH) | (refine wpAnyZ_take (i := 5) (v := ?_) rfl ?_ ?_ ?_ ?_ (fun _ _ _ h => h) ?_ ?_ ?_; rotate_left; kernel_rfl; kernel_rfl; kernel_rfl; kernel_rfl; (focus (refine Or.inl ⟨by rfl, ?_⟩; intro w' hSw; (try dsimp only at hSw); go_simp; with_reducible rfl)); exact hH)
  try simp only [Act.put, List.getElem_toArray, List.getElem_cons_succ, List.getElem_cons_zero, List.setIfInBounds_toArray, List.set_cons_zero, List.set_cons_succ]
  refine wpAnyZ_ready (rs := [6]) (by kernel_rfl) (by simp) ?_
  refine (AllReadyZ.cons rfl (fun K hK => ?_) AllReadyZ.nil)
  go_simp
  refine hK.out _ _ (fun h => absurd (by simp) h) ?_
  clear hK K
  try simp only [Act.put, List.getElem_toArray, List.getElem_cons_succ, List.getElem_cons_zero, List.setIfInBounds_toArray, List.set_cons_zero, List.set_cons_succ]
  refine wpAnyZ_done (by kernel_rfl) ?_ _
  refine NoPanic.normal ?_
  skip
  try clear hH
  clear KQ hrun
  go_wp2
  refine bodyPost_end (results_none rfl _ _ _) rfl ?_
  have hst := map_step HS.out.1 HT2.out HS.out.2.1 H3.out.2
  refine ⟨rfl, fun j => S1 j ∨ j ∈ t'.blocks, ⟨T, m, t', mput id (encK (key, id)) M, hst.1, hst.2, H3.out.1, HP.out.2.1, fun id' => ?_, once_aput H0.out.once, Or.inl H1.out.1.sU, Or.inl H1.out.1.sT, Or.inl H1.out.1.sm, fun y hy => Or.inr hy, ?_⟩, ?_, ?_⟩
  · have hon := once_dropId (id := id) H0.out.once
    rw [mget_put, H1.out.1.agree id', byId, byId]
    unfold aput
    rw [afind_ins (k := (key, id)) hon (afind_dropped id L)]
    by_cases e : id = id'
    · rw [if_pos e, if_pos (show (key, id).2 = id' from e)]; rfl
    · rw [if_neg e, if_neg (show ¬ (key, id).2 = id' from e)]
  · rintro j (hj | hj)
    · have := H1.out.1.lt j hj; have := HA.out.2.1.size; have := HP.out.1.fr.size; have := H3.out.2.size; omega
    · have := RepH.lt HT2.out.rep j hj; have := H3.out.2.size; omega
  · refine H1.out.2.1.then (S' := S1) ((Fr.of_new HA.out.2.1).trans ((HP.out.1.fr.mono fun j _ hj => by rcases hj with rfl | hj; exact H1.out.1.sT; exact H1.out.1.sb j hj).trans (H3.out.2.mono fun j _ hj => by subst hj; exact H1.out.1.sm))) ?_
    intro j hj hs
    rcases H1.out.2.2 j hs with e | e
    · exact e
    · omega
  · rintro j (hj | hj)
    · exact H1.out.2.2 j hj
    · rcases HP.out.1.blocks j hj with e | e
      · exact H1.out.2.2 j (H1.out.1.sb j e)
      · right
        have := HA.out.2.1.size
        have := H1.out.2.1.size
        omega
set_option maxHeartbeats 4000000 in
theorem ag_get (U : Nat) (S : Nat → Prop) (L : Row) (id : Int) (w : World) (h : Aug w S U L) :
    Calls Try.prog 47 #[.pointer (some ⟨U, 0, none⟩), .int .i64 id] w fun e w' => e = .returned (.tuple #[.int .u64 (agK id L), .int .u64 (agV id L), .bool (agIs id L)]) ∧ Below w.heap.size w w' := by
  obtain ⟨T, m, t, M, hm⟩ := h
  have H := Lib.hid hm
  have LK := hm.map.look map_desc int_desc (key_zero w) id
  have c0 := hm.blk.get 0 rfl
  have c1 := hm.blk.get 1 rfl
  have cl := hm.blk.lt
  have AG := hm.agree id
  unfold agIs agK agV
  cases hk : afind id L with
  | none =>
    rw [show byId id L = none from by rw [byId, hk]; rfl] at AG
    rw [AG] at LK
    have L1 := LK.1
    clear hm LK AG hk
    go_enter Try.func47, Try.ntmps47
    go_wp2_with fail
    with_reducible refine (ag_of w U _ _ H.out.blk).mono ?_
    rintro e wx ⟨rfl, rfl⟩
    go_wp2
    go_returns
    exact ⟨rfl, by go_grown⟩
  | some p =>
    rw [show byId id L = some p.1 from by rw [byId, hk]; rfl] at AG
    rw [AG] at LK
    have L1 := LK.1
    have HK := Lib.hid hk
    obtain ⟨k, x⟩ := p
    simp only [Option.map_some, Option.getD_some, Option.isSome_some, encK] at L1
    clear hm LK AG hk
    go_enter Try.func47, Try.ntmps47
    go_wp2_with fail
    with_reducible refine (ag_of w U _ _ H.out.blk).mono ?_
    rintro e wx ⟨rfl, rfl⟩
    go_upto_region 6 with (fail)
    obtain ⟨wa, hwa⟩ : ∃ x, w.alloc (.cells #[.int .u64 k.1, .int .i64 k.2] 31) = x := ⟨_, rfl⟩
    have hba : Below w.heap.size w wa := by rw [← hwa]; go_grown
    have bk : Blk wa w.heap.size 31 #[.int .u64 k.1, .int .i64 k.2] := by rw [← hwa]; exact Blk.new w _ _
    rw [hwa]
    have HA := Lib.hid (And.intro (H.out.next hba) (And.intro hba bk))
    have GT := Lib.hid (rh_get T t k wa.drew (HA.out.1.tree.next (below_of_drew (Below.refl _ _))))
    rw [HA.out.1.items, get_find (HA.out.1.items ▸ HA.out.1.tree.rises) HK.out] at GT
    clear hwa hba bk c0 cl c1 L1
    have KQ : Hid (∀ w', Below (wa.heap.size) wa w' → (w'.cell? ⟨U, 0, none⟩ = some (.pointer (some ⟨T, 0, none⟩)) ∧ w'.cell? ⟨w.heap.size, 0, none⟩ = some (.int .u64 k.1) ∧ w'.cell? ⟨w.heap.size, 1, none⟩ = some (.int .i64 k.2)) ∧ Below (wa.heap.size) wa w') := fun w' hb => ⟨⟨(HA.out.1.blk.next hb).get 0 rfl, (HA.out.2.2.next hb).get 0 rfl, (HA.out.2.2.next hb).get 1 rfl⟩, hb⟩
    refine wp_region_noPanic ?_
    refine wp_region_held_drew (S := fun w' => (w'.cell? ⟨U, 0, none⟩ = some (.pointer (some ⟨T, 0, none⟩)) ∧ w'.cell? ⟨w.heap.size, 0, none⟩ = some (.int .u64 k.1) ∧ w'.cell? ⟨w.heap.size, 1, none⟩ = some (.int .i64 k.2)) ∧ Below (wa.heap.size) wa w') (by kernel_rfl) (KQ.out _ (below_of_drew (Below.refl wa.heap.size wa))) (fun hH => ?_)
    have hbR := below_of_drew (Below.refl wa.heap.size wa)
    first | (refine wpAnyH_take (i := 0) (v := undef) rfl ?_ ?_ ?_ (fun _ _ _ h => h) ?_ ?_ ?_; kernel_rfl; kernel_rfl; kernel_rfl; exact Or.inr ⟨by rfl, rfl⟩; exact hH) | (refine wpAnyH_take (i := 0) (v := ?_) rfl ?_ ?_ ?_ (fun _ _ _ h => h) ?_ ?_ ?_; rotate_left; kernel_rfl; kernel_rfl; kernel_rfl; (focus (refine Or.inl ⟨by rfl, ?_⟩; intro w' hSw; (try dsimp only at hSw); go_simp)); exact hH) | (refine wpAnyH_take (i := 0) (v := ?_) rfl ?_ ?_ ?_ (fun _ _ _ h => h) ?_ ?_ ?_; rotate_left; kernel_rfl; kernel_rfl; kernel_rfl; (focus (refine Or.inl ⟨by rfl, ?_⟩; intro w' hSw; (try dsimp only at hSw); go_simp; with_reducible rfl)); exact hH)
    try simp only [Act.put, List.getElem_toArray, List.getElem_cons_succ, List.getElem_cons_zero, List.setIfInBounds_toArray, List.set_cons_zero, List.set_cons_succ]
    first | (refine wpAnyH_take (i := 1) (v := undef) rfl ?_ ?_ ?_ (fun _ _ _ h => h) ?_ ?_ ?_; kernel_rfl; kernel_rfl; kernel_rfl; exact Or.inr ⟨by rfl, rfl⟩; exact hH) | (refine wpAnyH_take (i := 1) (v := ?_) rfl ?_ ?_ ?_ (fun _ _ _ h => h) ?_ ?_ ?_; rotate_left; kernel_rfl; kernel_rfl; kernel_rfl; (focus (refine Or.inl ⟨by rfl, ?_⟩; intro w' hSw; (try dsimp only at hSw); go_simp)); exact hH) | (refine wpAnyH_take (i := 1) (v := ?_) rfl ?_ ?_ ?_ (fun _ _ _ h => h) ?_ ?_ ?_; rotate_left; kernel_rfl; kernel_rfl; kernel_rfl; (focus (refine Or.inl ⟨by rfl, ?_⟩; intro w' hSw; (try dsimp only at hSw); go_simp; with_reducible rfl)); exact hH)
    try simp only [Act.put, List.getElem_toArray, List.getElem_cons_succ, List.getElem_cons_zero, List.setIfInBounds_toArray, List.set_cons_zero, List.set_cons_succ]
    first | (refine wpAnyH_take (i := 2) (v := undef) rfl ?_ ?_ ?_ (fun _ _ _ h => h) ?_ ?_ ?_; kernel_rfl; kernel_rfl; kernel_rfl; exact Or.inr ⟨by rfl, rfl⟩; exact hH) | (refine wpAnyH_take (i := 2) (v := ?_) rfl ?_ ?_ ?_ (fun _ _ _ h => h) ?_ ?_ ?_; rotate_left; kernel_rfl; kernel_rfl; kernel_rfl; (focus (refine Or.inl ⟨by rfl, ?_⟩; intro w' hSw; (try dsimp only at hSw); go_simp)); exact hH) | (refine wpAnyH_take (i := 2) (v := ?_) rfl ?_ ?_ ?_ (fun _ _ _ h => h) ?_ ?_ ?_; rotate_left; kernel_rfl; kernel_rfl; kernel_rfl; (focus (refine Or.inl ⟨by rfl, ?_⟩; intro w' hSw; (try dsimp only at hSw); go_simp; with_reducible rfl)); exact hH)
    try simp only [Act.put, List.getElem_toArray, List.getElem_cons_succ, List.getElem_cons_zero, List.setIfInBounds_toArray, List.set_cons_zero, List.set_cons_succ]
    first | (refine wpAnyH_take (i := 3) (v := undef) rfl ?_ ?_ ?_ (fun _ _ _ h => h) ?_ ?_ ?_; kernel_rfl; kernel_rfl; kernel_rfl; exact Or.inr ⟨by rfl, rfl⟩; exact hH) | (refine wpAnyH_take (i := 3) (v := ?_) rfl ?_ ?_ ?_ (fun _ _ _ h => h) ?_ ?_ ?_; rotate_left; kernel_rfl; kernel_rfl; kernel_rfl; (focus (refine Or.inl ⟨by rfl, ?_⟩; intro w' hSw; (try dsimp only at hSw); go_simp)); exact hH) | (refine wpAnyH_take (i := 3) (v := ?_) rfl ?_ ?_ ?_ (fun _ _ _ h => h) ?_ ?_ ?_; rotate_left; kernel_rfl; kernel_rfl; kernel_rfl; (focus (refine Or.inl ⟨by rfl, ?_⟩; intro w' hSw; (try dsimp only at hSw); go_simp; with_reducible rfl)); exact hH)
    try simp only [Act.put, List.getElem_toArray, List.getElem_cons_succ, List.getElem_cons_zero, List.setIfInBounds_toArray, List.set_cons_zero, List.set_cons_succ]
    first | (refine wpAnyH_take (i := 4) (v := undef) rfl ?_ ?_ ?_ (fun _ _ _ h => h) ?_ ?_ ?_; kernel_rfl; kernel_rfl; kernel_rfl; exact Or.inr ⟨by rfl, rfl⟩; exact hH) | (refine wpAnyH_take (i := 4) (v := ?_) rfl ?_ ?_ ?_ (fun _ _ _ h => h) ?_ ?_ ?_; rotate_left; kernel_rfl; kernel_rfl; kernel_rfl; (focus (refine Or.inl ⟨by rfl, ?_⟩; intro w' hSw; (try dsimp only at hSw); go_simp)); exact hH) | (refine wpAnyH_take (i := 4) (v := ?_) rfl ?_ ?_ ?_ (fun _ _ _ h => h) ?_ ?_ ?_; rotate_left; kernel_rfl; kernel_rfl; kernel_rfl; (focus (refine Or.inl ⟨by rfl, ?_⟩; intro w' hSw; (try dsimp only at hSw); go_simp; with_reducible rfl)); exact hH)
    try simp only [Act.put, List.getElem_toArray, List.getElem_cons_succ, List.getElem_cons_zero, List.setIfInBounds_toArray, List.set_cons_zero, List.set_cons_succ]
    refine wpAnyH_ready (rs := [5]) (by kernel_rfl) (by simp) ?_
    refine (AllReadyH.cons rfl (fun K hK => ?_) AllReadyH.nil)
    go_simp
    with_reducible refine (GT.out).mono ?_
    rintro e w1 ⟨rfl, hb1'⟩
    have hb1 : Below (wa.heap.size) wa w1 := below_next hH.2 hb1'
    try go_wp2_with fail
    refine hK.out _ _ (KQ.out _ hb1) (fun hH1 => ?_)
    clear hK K hH
    have hH := hH1
    clear hH1
    try simp only [Act.put, List.getElem_toArray, List.getElem_cons_succ, List.getElem_cons_zero, List.setIfInBounds_toArray, List.set_cons_zero, List.set_cons_succ]
    first | (refine wpAnyH_take (i := 6) (v := undef) rfl ?_ ?_ ?_ (fun _ _ _ h => h) ?_ ?_ ?_; kernel_rfl; kernel_rfl; kernel_rfl; exact Or.inr ⟨by rfl, rfl⟩; exact hH) | (refine wpAnyH_take (i := 6) (v := ?_) rfl ?_ ?_ ?_ (fun _ _ _ h => h) ?_ ?_ ?_; rotate_left; kernel_rfl; kernel_rfl; kernel_rfl; (focus (refine Or.inl ⟨by rfl, ?_⟩; intro w' hSw; (try dsimp only at hSw); go_simp)); exact hH) | (refine wpAnyH_take (i := 6) (v := ?_) rfl ?_ ?_ ?_ (fun _ _ _ h => h) ?_ ?_ ?_; rotate_left; kernel_rfl; kernel_rfl; kernel_rfl; (focus (refine Or.inl ⟨by rfl, ?_⟩; intro w' hSw; (try dsimp only at hSw); go_simp; with_reducible rfl)); exact hH)
    try simp only [Act.put, List.getElem_toArray, List.getElem_cons_succ, List.getElem_cons_zero, List.setIfInBounds_toArray, List.set_cons_zero, List.set_cons_succ]
    first | (refine wpAnyH_take (i := 7) (v := undef) rfl ?_ ?_ ?_ (fun _ _ _ h => h) ?_ ?_ ?_; kernel_rfl; kernel_rfl; kernel_rfl; exact Or.inr ⟨by rfl, rfl⟩; exact hH) | (refine wpAnyH_take (i := 7) (v := ?_) rfl ?_ ?_ ?_ (fun _ _ _ h => h) ?_ ?_ ?_; rotate_left; kernel_rfl; kernel_rfl; kernel_rfl; (focus (refine Or.inl ⟨by rfl, ?_⟩; intro w' hSw; (try dsimp only at hSw); go_simp)); exact hH) | (refine wpAnyH_take (i := 7) (v := ?_) rfl ?_ ?_ ?_ (fun _ _ _ h => h) ?_ ?_ ?_; rotate_left; kernel_rfl; kernel_rfl; kernel_rfl; (focus (refine Or.inl ⟨by rfl, ?_⟩; intro w' hSw; (try dsimp only at hSw); go_simp; with_reducible rfl)); exact hH)
    try simp only [Act.put, List.getElem_toArray, List.getElem_cons_succ, List.getElem_cons_zero, List.setIfInBounds_toArray, List.set_cons_zero, List.set_cons_succ]
    first | (refine wpAnyH_take (i := 8) (v := undef) rfl ?_ ?_ ?_ (fun _ _ _ h => h) ?_ ?_ ?_; kernel_rfl; kernel_rfl; kernel_rfl; exact Or.inr ⟨by rfl, rfl⟩; exact hH) | (refine wpAnyH_take (i := 8) (v := ?_) rfl ?_ ?_ ?_ (fun _ _ _ h => h) ?_ ?_ ?_; rotate_left; kernel_rfl; kernel_rfl; kernel_rfl; (focus (refine Or.inl ⟨by rfl, ?_⟩; intro w' hSw; (try dsimp only at hSw); go_simp)); exact hH) | (refine wpAnyH_take (i := 8) (v := ?_) rfl ?_ ?_ ?_ (fun _ _ _ h => h) ?_ ?_ ?_; rotate_left; kernel_rfl; kernel_rfl; kernel_rfl; (focus (refine Or.inl ⟨by rfl, ?_⟩; intro w' hSw; (try dsimp only at hSw); go_simp; with_reducible rfl)); exact hH)
    try simp only [Act.put, List.getElem_toArray, List.getElem_cons_succ, List.getElem_cons_zero, List.setIfInBounds_toArray, List.set_cons_zero, List.set_cons_succ]
    first | (refine wpAnyH_take (i := 9) (v := undef) rfl ?_ ?_ ?_ (fun _ _ _ h => h) ?_ ?_ ?_; kernel_rfl; kernel_rfl; kernel_rfl; exact Or.inr ⟨by rfl, rfl⟩; exact hH) | (refine wpAnyH_take (i := 9) (v := ?_) rfl ?_ ?_ ?_ (fun _ _ _ h => h) ?_ ?_ ?_; rotate_left; kernel_rfl; kernel_rfl; kernel_rfl; (focus (refine Or.inl ⟨by rfl, ?_⟩; intro w' hSw; (try dsimp only at hSw); go_simp)); exact hH) | (refine wpAnyH_take (i := 9) (v := ?_) rfl ?_ ?_ ?_ (fun _ _ _ h => h) ?_ ?_ ?_; rotate_left; kernel_rfl; kernel_rfl; kernel_rfl; (focus (refine Or.inl ⟨by rfl, ?_⟩; intro w' hSw; (try dsimp only at hSw); go_simp; with_reducible rfl)); exact hH)
    try simp only [Act.put, List.getElem_toArray, List.getElem_cons_succ, List.getElem_cons_zero, List.setIfInBounds_toArray, List.set_cons_zero, List.set_cons_succ]
    first | (refine wpAnyH_take (i := 10) (v := undef) rfl ?_ ?_ ?_ (fun _ _ _ h => h) ?_ ?_ ?_; kernel_rfl; kernel_rfl; kernel_rfl; exact Or.inr ⟨by rfl, rfl⟩; exact hH) | (refine wpAnyH_take (i := 10) (v := ?_) rfl ?_ ?_ ?_ (fun _ _ _ h => h) ?_ ?_ ?_; rotate_left; kernel_rfl; kernel_rfl; kernel_rfl; (focus (refine Or.inl ⟨by rfl, ?_⟩; intro w' hSw; (try dsimp only at hSw); go_simp)); exact hH) | (refine wpAnyH_take (i := 10) (v := ?_) rfl ?_ ?_ ?_ (fun _ _ _ h => h) ?_ ?_ ?_; rotate_left; kernel_rfl; kernel_rfl; kernel_rfl; (focus (refine Or.inl ⟨by rfl, ?_⟩; intro w' hSw; (try dsimp only at hSw); go_simp; with_reducible rfl)); exact hH)
    try simp only [Act.put, List.getElem_toArray, List.getElem_cons_succ, List.getElem_cons_zero, List.setIfInBounds_toArray, List.set_cons_zero, List.set_cons_succ]
    refine wpAnyH_done (by kernel_rfl) ?_ _
    refine NoPanic.normal ?_
    clear hH KQ
    have HB1 := Lib.hid hb1
    have x0 := (HA.out.2.2.next HB1.out).get 0 rfl
    clear hb1 hb1'
    go_wp2
    go_returns
    exact ⟨rfl, below_next HA.out.2.1 HB1.out⟩

end Go.Proofs.Ytjlnbpomncglcaa
