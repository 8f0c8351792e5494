/-
  Aug's trees in memory; New, Drop, Put, Get.
-/
import Derived.Test.YtjlnbpomncglcaaProg
import Derived.Test.YtjlnbpomncglcaaAugP
import Derived.Test.YtjlnbpomncglcaaMapI
import Derived.Test.YtjlnbpomncglcaaRBHX
import Derived.Test.YtjlnbpomncglcaaRBHS
import Derived.StillTailTactics
namespace Go.Proofs.Ytjlnbpomncglcaa
set_option linter.unusedVariables false
set_option linter.unusedSimpArgs false
set_option maxRecDepth 100000
open Go.RowKit Go.Shelf

attribute [local go_sem] Oper.semAt_some

def encK (k : RK) : Value := .agg #[.int .u64 k.1, .int .i64 k.2]
theorem int_desc : Try.prog.underlying 3 = some (.int .i64) := Try.underlying3
theorem map_desc : Try.prog.underlying 99 = some (.map 3 31) := Try.underlying99
theorem key_zero (w : World) : (zeroValue 31).run Try.prog w = .ok (.agg #[.int .u64 0, .int .i64 0]) w := by kernel_rfl
/-- A tree of aug's: its own block, the tree of keys, the map of ids; S: all their blocks. -/
structure AugM (w : World) (S : Nat → Prop) (U T m : Nat) (t : RB (Int × Int)) (M : IMap) (L : Row) : Prop where
  blk : Blk w U 101 #[.pointer (some ⟨T, 0, none⟩), .map (some m)]
  tree : TrIsH w T t
  map : MpAt w m M
  items : t.items = L
  agree : ∀ id, mget id M = (byId id L).map encK
  once : Once L
  sU : S U
  sT : S T
  sm : S m
  sb : ∀ x ∈ t.blocks, S x
  lt : ∀ j, S j → j < w.heap.size
def Aug (w : World) (S : Nat → Prop) (U : Nat) (L : Row) : Prop := ∃ T m t M, AugM w S U T m t M L
section
variable {w w' : World} {S : Nat → Prop} {U T m : Nat} {t : RB (Int × Int)} {M : IMap} {L : Row}
theorem AugM.fr {S2 : Nat → Prop} (h : AugM w S U T m t M L) (hf : Fr S2 w w') (hd : ∀ j, S j → ¬ S2 j) : AugM w' S U T m t M L :=
  ⟨h.blk.fr hf (hd _ h.sU), h.tree.fr hf (hd _ h.sT) (fun x hx => hd _ (h.sb x hx)), h.map.fr hf (hd _ h.sm), h.items, h.agree, h.once, h.sU, h.sT, h.sm, h.sb, fun j hj => Nat.lt_of_lt_of_le (h.lt j hj) hf.size⟩
theorem Aug.fr {S2 : Nat → Prop} (h : Aug w S U L) (hf : Fr S2 w w') (hd : ∀ j, S j → ¬ S2 j) : Aug w' S U L := by
  obtain ⟨T, m, t, M, h⟩ := h
  exact ⟨T, m, t, M, h.fr hf hd⟩
theorem Aug.lt (h : Aug w S U L) : ∀ j, S j → j < w.heap.size := by obtain ⟨T, m, t, M, h⟩ := h; exact h.lt
theorem Aug.once (h : Aug w S U L) : Once L := by obtain ⟨T, m, t, M, h⟩ := h; exact h.once
theorem Aug.rises (h : Aug w S U L) : Rises L := by obtain ⟨T, m, t, M, h⟩ := h; exact h.items ▸ h.tree.rises
theorem AugM.next (h : AugM w S U T m t M L) (hb : Below w.heap.size w w') : AugM w' S U T m t M L := h.fr (Fr.of_below hb) (fun j hj => by have := h.lt j hj; show ¬ _ ≤ _; omega)
theorem Aug.next (h : Aug w S U L) (hb : Below w.heap.size w w') : Aug w' S U L := by
  obtain ⟨T, m, t, M, h⟩ := h
  exact ⟨T, m, t, M, h.next hb⟩
theorem MpAt.stays {B b : Nat} (h : MpAt w b M) (hs : Stays B w w') : MpAt w' b M := by
  obtain ⟨es, cl, h1, h2⟩ := h
  exact ⟨es, cl, hs.kept b _ h1 rfl, h2⟩
theorem AugM.stays {B : Nat} (h : AugM w S U T m t M L) (hs : Stays B w w') : AugM w' S U T m t M L :=
  ⟨h.blk.stays hs, h.tree.stays hs, h.map.stays hs, h.items, h.agree, h.once, h.sU, h.sT, h.sm, h.sb, fun j hj => Nat.lt_of_lt_of_le (h.lt j hj) hs.size⟩
theorem Aug.stays {B : Nat} (h : Aug w S U L) (hs : Stays B w w') : Aug w' S U L := by
  obtain ⟨T, m, t, M, h⟩ := h
  exact ⟨T, m, t, M, h.stays hs⟩
theorem MpAt.ne {b : Nat} {ty : TypeId} {cs : Array Value} (h : MpAt w m M) (hb : Blk w b ty cs) : b ≠ m := by
  rintro rfl
  obtain ⟨es, cl, h1, -⟩ := h
  unfold Blk at hb
  rw [h1] at hb
  cases hb
theorem RepH.node : ∀ {t : RB (Int × Int)}, RepH w t → ∀ x ∈ t.blocks, ∃ cs, Blk w x 138 cs
  | .nil, _, x, hx => by cases hx
  | .node b c l k v s r, h, x, hx => by
    rcases List.mem_cons.1 hx with rfl | hx
    · exact ⟨_, h.1⟩
    · rcases List.mem_append.1 hx with hx | hx
      · exact RepH.node h.2.1 x hx
      · exact RepH.node h.2.2 x hx
/-- The blocks of one tree are apart from each other. -/
theorem AugM.apart (h : AugM w S U T m t M L) : U ≠ T ∧ U ∉ t.blocks ∧ U ≠ m ∧ T ≠ m ∧ m ∉ t.blocks :=
  ⟨h.blk.ne_of_type h.tree.blk (by decide), fun hx => by
    obtain ⟨cs, hc⟩ := RepH.node h.tree.rep U hx
    exact h.blk.ne_of_type hc (by decide) rfl, h.map.ne h.blk, h.map.ne h.tree.blk, fun hx => by
    obtain ⟨cs, hc⟩ := RepH.node h.tree.rep m hx
    exact h.map.ne hc rfl⟩
/-- A step of the tree of keys. -/
theorem AugM.step {t' : RB (Int × Int)} (h : AugM w S U T m t M L) (k : TrToH w w' T t t') : Blk w' U 101 #[.pointer (some ⟨T, 0, none⟩), .map (some m)] ∧ MpAt w' m M ∧ Fr S w w' := by
  obtain ⟨a1, a2, a3, a4, a5⟩ := h.apart
  exact ⟨h.blk.fr k.fr (by rintro (e | e); exact a1 e; exact a2 e), h.map.fr k.fr (by rintro (e | e); exact a4 e.symm; exact a5 e), k.fr.mono fun j _ hj => by rcases hj with rfl | hj; exact h.sT; exact h.sb j hj⟩
end
/-- What an operation on a tree leaves. -/
def AugTo (w w' : World) (S : Nat → Prop) (U : Nat) (L' : Row) : Prop := ∃ S', Aug w' S' U L' ∧ Fr S w w' ∧ ∀ j, S' j → S j ∨ w.heap.size ≤ j
theorem AugTo.same {w w' : World} {S : Nat → Prop} {U : Nat} {L : Row} (h : Aug w S U L) (hb : Below w.heap.size w w') : AugTo w w' S U L := ⟨S, h.next hb, Fr.of_new hb, fun j hj => Or.inl hj⟩
theorem ag_of (w : World) (U : Nat) (v : Option Addr) (v2 : Value) (h : Blk w U 101 #[.pointer v, v2]) : Calls Try.prog 72 #[.pointer (some ⟨U, 0, none⟩)] w fun e w' => e = .returned (.pointer v) ∧ w = w' := by
  have c0 := h.get 0 rfl
  clear h
  go_enter Try.func72, Try.ntmps72
  go_wp2
  go_ret
  exact ⟨rfl, rfl⟩
theorem ag_new (w : World) : Calls Try.prog 56 #[] w fun e w' => ∃ U S, e = .returned (.pointer (some ⟨U, 0, none⟩)) ∧ Aug w' S U [] ∧ (∀ j, S j → w.heap.size ≤ j) ∧ Below w.heap.size w w' := by
  have mk : ∀ w, (Instr.makeMap 99 none).run Try.prog w = .ok (.map (some w.heap.size)) (w.alloc (.map #[] 0)) := fun w => by simp [Instr.makeMap, Result.andThen]
  go_enter Try.func56, Try.ntmps56
  go_wp2_with fail
  with_reducible refine (rh_new w).mono ?_
  rintro e w1 ⟨T, rfl, h1, h2, h3⟩
  have H := Lib.hid (And.intro h1 (And.intro h2 h3))
  clear h1 h2 h3
  go_wp2
  go_ret
  have hm : Below w1.heap.size w1 (w1.alloc (.map #[] 0)) := (Below.refl _ _).alloc (Nat.le_refl _) _
  have hu : Below w1.heap.size w1 ((w1.alloc (.map #[] 0)).alloc (.cells #[.pointer (some ⟨T, 0, none⟩), .map (some w1.heap.size)] 101)) := hm.alloc (by simp) _
  have hl := H.out.1.blk.lt
  have hs := H.out.2.2.size
  refine ⟨w1.heap.size + 1, fun j => j = T ∨ j = w1.heap.size ∨ j = w1.heap.size + 1, by simp, ⟨T, w1.heap.size, .nil, [], Blk.new_at (by simp), H.out.1.next hu, (MpAt.new w1).fr ((Fr.refl (fun _ => False) _).alloc _) (fun h => h), rfl, fun id => rfl, once_nil, Or.inr (Or.inr rfl), Or.inl rfl, Or.inr (Or.inl rfl), (fun x hx => by cases hx), ?_⟩, ?_, below_next H.out.2.2 hu⟩
  · rintro j (rfl | rfl | rfl)
    · simp only [World.size_alloc]; omega
    · simp only [World.size_alloc]; omega
    · simp only [World.size_alloc]; omega
  · rintro j (rfl | rfl | rfl)
    · exact H.out.2.1
    · exact hs
    · omega
set_option maxHeartbeats 4000000 in
theorem ag_drop (U : Nat) (S : Nat → Prop) (L : Row) (id : Int) (w : World) (h : Aug w S U L) (hf : L.length ≤ 65535) :
    Calls Try.prog 55 #[.pointer (some ⟨U, 0, none⟩), .int .i64 id] w fun e w' => e = .returned (.bool (agIs id L)) ∧ AugTo w w' S U (dropId id L) := by
  obtain ⟨T, m, t, M, hm⟩ := h
  have H := Lib.hid hm
  have HF := Lib.hid hf
  have LK := hm.map.look map_desc int_desc (key_zero w) id
  have c0 := hm.blk.get 0 rfl
  have c1 := hm.blk.get 1 rfl
  have cl := hm.blk.lt
  have AG := hm.agree id
  unfold agIs
  cases hk : afind id L with
  | none =>
    rw [show byId id L = none from by rw [byId, hk]; rfl] at AG
    rw [AG] at LK
    have L1 := LK.1
    have HK := Lib.hid hk
    clear hm LK AG hk hf
    go_enter Try.func55, Try.ntmps55
    go_wp2_with fail
    with_reducible refine (ag_of w U _ _ H.out.blk).mono ?_
    rintro e wx ⟨rfl, rfl⟩
    go_wp2
    go_ret
    exact ⟨by simp, by rw [dropId_none HK.out]; exact AugTo.same ⟨T, m, t, M, H.out⟩ (by go_grown)⟩
  | some p =>
    rw [show byId id L = some p.1 from by rw [byId, hk]; rfl] at AG
    rw [AG] at LK
    have L1 := LK.1
    have HK := Lib.hid hk
    obtain ⟨k, x⟩ := p
    simp only [Option.map_some, Option.getD_some, Option.isSome_some, encK] at L1
    clear hm LK AG hk hf
    go_enter Try.func55, Try.ntmps55
    go_wp2_with fail
    with_reducible refine (ag_of w U _ _ H.out.blk).mono ?_
    rintro e wx ⟨rfl, rfl⟩
    go_upto_region 6 with (fail)
    obtain ⟨wa, hwa⟩ : ∃ x, w.alloc (.cells #[.int .u64 k.1, .int .i64 k.2] 31) = x := ⟨_, rfl⟩
    have hba : Below w.heap.size w wa := by rw [← hwa]; go_grown
    have bk : Blk wa w.heap.size 31 #[.int .u64 k.1, .int .i64 k.2] := by rw [← hwa]; exact Blk.new w _ _
    rw [hwa]
    have HA := Lib.hid (And.intro (H.out.next hba) (And.intro hba bk))
    obtain ⟨wb, hrun, hmb, hfb⟩ := HA.out.1.map.drop (ty := 0) (ts := #[99, 3]) rfl map_desc int_desc id
    have HB := Lib.hid (And.intro hmb hfb)
    have c1 := HA.out.1.blk.get 1 rfl
    clear hwa hba bk hmb hfb c0 cl L1
    go_wp2_with fail
    have HU : Hid (Blk wb U 101 #[.pointer (some ⟨T, 0, none⟩), .map (some m)] ∧ TrIsH wb T t ∧ Blk wb w.heap.size 31 #[.int .u64 k.1, .int .i64 k.2]) := by
      have a := HA.out.1.apart
      have b := HA.out.1.map.ne HA.out.2.2
      exact ⟨HA.out.1.blk.fr HB.out.2 (fun e => a.2.2.1 e), HA.out.1.tree.fr HB.out.2 (fun e => a.2.2.2.1 e) (fun y hy e => a.2.2.2.2 (e ▸ hy)), HA.out.2.2.fr HB.out.2 (fun e => b e)⟩
    have DR := Lib.hid (rh_Drop T t k x wb.drew (HU.out.2.1.next (below_of_drew (Below.refl _ _))) (by rw [H.out.items]; exact get_find (H.out.items ▸ H.out.tree.rises) HK.out) (by rw [H.out.items]; have := HF.out; omega))
    clear c1 hrun
    have HNS : Hid (¬ (U = T ∨ U ∈ t.blocks) ∧ ¬ (w.heap.size = T ∨ w.heap.size ∈ t.blocks)) := by
      have a := H.out.apart
      refine ⟨by rintro (e | e); exact a.1 e; exact a.2.1 e, ?_⟩
      rintro (e | e)
      · have := H.out.tree.blk.lt; omega
      · have := RepH.lt H.out.tree.rep _ e; omega
    have KQ : Hid (∀ w', Fr ((fun j => j = T ∨ j ∈ t.blocks)) wb w' → (w'.cell? ⟨U, 0, none⟩ = some (.pointer (some ⟨T, 0, none⟩)) ∧ w'.cell? ⟨w.heap.size, 0, none⟩ = some (.int .u64 k.1) ∧ w'.cell? ⟨w.heap.size, 1, none⟩ = some (.int .i64 k.2)) ∧ Fr ((fun j => j = T ∨ j ∈ t.blocks)) wb w') := fun w' hb => ⟨⟨(HU.out.1.fr hb HNS.out.1).get 0 rfl, (HU.out.2.2.fr hb HNS.out.2).get 0 rfl, (HU.out.2.2.fr hb HNS.out.2).get 1 rfl⟩, hb⟩
    go_upto_region 7 with (fail)
    refine wp_region_noPanic ?_
    refine wp_region_held_drew (S := fun w' => (w'.cell? ⟨U, 0, none⟩ = some (.pointer (some ⟨T, 0, none⟩)) ∧ w'.cell? ⟨w.heap.size, 0, none⟩ = some (.int .u64 k.1) ∧ w'.cell? ⟨w.heap.size, 1, none⟩ = some (.int .i64 k.2)) ∧ Fr ((fun j => j = T ∨ j ∈ t.blocks)) wb w') (by kernel_rfl) (KQ.out _ (Fr.drew ((Fr.refl (fun j => j = T ∨ j ∈ t.blocks) wb)))) (fun hH => ?_)
    have hbR := Fr.drew ((Fr.refl (fun j => j = T ∨ j ∈ t.blocks) wb))
    first | (refine wpAnyH_take (i := 0) (v := undef) rfl ?_ ?_ ?_ (fun _ _ _ h => h) ?_ ?_ ?_; kernel_rfl; kernel_rfl; kernel_rfl; exact Or.inr ⟨by rfl, rfl⟩; exact hH) | (refine wpAnyH_take (i := 0) (v := ?_) rfl ?_ ?_ ?_ (fun _ _ _ h => h) ?_ ?_ ?_; rotate_left; kernel_rfl; kernel_rfl; kernel_rfl; (focus (refine Or.inl ⟨by rfl, ?_⟩; intro w' hSw; (try dsimp only at hSw); go_simp)); exact hH) | (refine wpAnyH_take (i := 0) (v := ?_) rfl ?_ ?_ ?_ (fun _ _ _ h => h) ?_ ?_ ?_; rotate_left; kernel_rfl; kernel_rfl; kernel_rfl; (focus (refine Or.inl ⟨by rfl, ?_⟩; intro w' hSw; (try dsimp only at hSw); go_simp; with_reducible rfl)); exact hH)
    try simp only [Act.put, List.getElem_toArray, List.getElem_cons_succ, List.getElem_cons_zero, List.setIfInBounds_toArray, List.set_cons_zero, List.set_cons_succ]
    first | (refine wpAnyH_take (i := 1) (v := undef) rfl ?_ ?_ ?_ (fun _ _ _ h => h) ?_ ?_ ?_; kernel_rfl; kernel_rfl; kernel_rfl; exact Or.inr ⟨by rfl, rfl⟩; exact hH) | (refine wpAnyH_take (i := 1) (v := ?_) rfl ?_ ?_ ?_ (fun _ _ _ h => h) ?_ ?_ ?_; rotate_left; kernel_rfl; kernel_rfl; kernel_rfl; (focus (refine Or.inl ⟨by rfl, ?_⟩; intro w' hSw; (try dsimp only at hSw); go_simp)); exact hH) | (refine wpAnyH_take (i := 1) (v := ?_) rfl ?_ ?_ ?_ (fun _ _ _ h => h) ?_ ?_ ?_; rotate_left; kernel_rfl; kernel_rfl; kernel_rfl; (focus (refine Or.inl ⟨by rfl, ?_⟩; intro w' hSw; (try dsimp only at hSw); go_simp; with_reducible rfl)); exact hH)
    try simp only [Act.put, List.getElem_toArray, List.getElem_cons_succ, List.getElem_cons_zero, List.setIfInBounds_toArray, List.set_cons_zero, List.set_cons_succ]
    first | (refine wpAnyH_take (i := 2) (v := undef) rfl ?_ ?_ ?_ (fun _ _ _ h => h) ?_ ?_ ?_; kernel_rfl; kernel_rfl; kernel_rfl; exact Or.inr ⟨by rfl, rfl⟩; exact hH) | (refine wpAnyH_take (i := 2) (v := ?_) rfl ?_ ?_ ?_ (fun _ _ _ h => h) ?_ ?_ ?_; rotate_left; kernel_rfl; kernel_rfl; kernel_rfl; (focus (refine Or.inl ⟨by rfl, ?_⟩; intro w' hSw; (try dsimp only at hSw); go_simp)); exact hH) | (refine wpAnyH_take (i := 2) (v := ?_) rfl ?_ ?_ ?_ (fun _ _ _ h => h) ?_ ?_ ?_; rotate_left; kernel_rfl; kernel_rfl; kernel_rfl; (focus (refine Or.inl ⟨by rfl, ?_⟩; intro w' hSw; (try dsimp only at hSw); go_simp; with_reducible rfl)); exact hH)
    try simp only [Act.put, List.getElem_toArray, List.getElem_cons_succ, List.getElem_cons_zero, List.setIfInBounds_toArray, List.set_cons_zero, List.set_cons_succ]
    first | (refine wpAnyH_take (i := 3) (v := undef) rfl ?_ ?_ ?_ (fun _ _ _ h => h) ?_ ?_ ?_; kernel_rfl; kernel_rfl; kernel_rfl; exact Or.inr ⟨by rfl, rfl⟩; exact hH) | (refine wpAnyH_take (i := 3) (v := ?_) rfl ?_ ?_ ?_ (fun _ _ _ h => h) ?_ ?_ ?_; rotate_left; kernel_rfl; kernel_rfl; kernel_rfl; (focus (refine Or.inl ⟨by rfl, ?_⟩; intro w' hSw; (try dsimp only at hSw); go_simp)); exact hH) | (refine wpAnyH_take (i := 3) (v := ?_) rfl ?_ ?_ ?_ (fun _ _ _ h => h) ?_ ?_ ?_; rotate_left; kernel_rfl; kernel_rfl; kernel_rfl; (focus (refine Or.inl ⟨by rfl, ?_⟩; intro w' hSw; (try dsimp only at hSw); go_simp; with_reducible rfl)); exact hH)
    try simp only [Act.put, List.getElem_toArray, List.getElem_cons_succ, List.getElem_cons_zero, List.setIfInBounds_toArray, List.set_cons_zero, List.set_cons_succ]
    first | (refine wpAnyH_take (i := 4) (v := undef) rfl ?_ ?_ ?_ (fun _ _ _ h => h) ?_ ?_ ?_; kernel_rfl; kernel_rfl; kernel_rfl; exact Or.inr ⟨by rfl, rfl⟩; exact hH) | (refine wpAnyH_take (i := 4) (v := ?_) rfl ?_ ?_ ?_ (fun _ _ _ h => h) ?_ ?_ ?_; rotate_left; kernel_rfl; kernel_rfl; kernel_rfl; (focus (refine Or.inl ⟨by rfl, ?_⟩; intro w' hSw; (try dsimp only at hSw); go_simp)); exact hH) | (refine wpAnyH_take (i := 4) (v := ?_) rfl ?_ ?_ ?_ (fun _ _ _ h => h) ?_ ?_ ?_; rotate_left; kernel_rfl; kernel_rfl; kernel_rfl; (focus (refine Or.inl ⟨by rfl, ?_⟩; intro w' hSw; (try dsimp only at hSw); go_simp; with_reducible rfl)); exact hH)
    try simp only [Act.put, List.getElem_toArray, List.getElem_cons_succ, List.getElem_cons_zero, List.setIfInBounds_toArray, List.set_cons_zero, List.set_cons_succ]
    refine wpAnyH_ready (rs := [5]) (by kernel_rfl) (by simp) ?_
    refine (AllReadyH.cons rfl (fun K hK => ?_) AllReadyH.nil)
    go_simp
    with_reducible refine (DR.out).mono ?_
    rintro e w1 ⟨t', rfl, ht1, hi1⟩
    have fr1 : Fr (fun j => j = T ∨ j ∈ t.blocks) wb w1 := hH.2.trans ht1.fr
    have HD := Lib.hid (And.intro ht1 hi1)
    clear ht1 hi1
    refine hK.out _ _ (KQ.out _ fr1) (fun hH1 => ?_)
    clear hK K hH
    have hH := hH1
    clear hH1
    try simp only [Act.put, List.getElem_toArray, List.getElem_cons_succ, List.getElem_cons_zero, List.setIfInBounds_toArray, List.set_cons_zero, List.set_cons_succ]
    first | (refine wpAnyH_take (i := 6) (v := undef) rfl ?_ ?_ ?_ (fun _ _ _ h => h) ?_ ?_ ?_; kernel_rfl; kernel_rfl; kernel_rfl; exact Or.inr ⟨by rfl, rfl⟩; exact hH) | (refine wpAnyH_take (i := 6) (v := ?_) rfl ?_ ?_ ?_ (fun _ _ _ h => h) ?_ ?_ ?_; rotate_left; kernel_rfl; kernel_rfl; kernel_rfl; (focus (refine Or.inl ⟨by rfl, ?_⟩; intro w' hSw; (try dsimp only at hSw); go_simp)); exact hH) | (refine wpAnyH_take (i := 6) (v := ?_) rfl ?_ ?_ ?_ (fun _ _ _ h => h) ?_ ?_ ?_; rotate_left; kernel_rfl; kernel_rfl; kernel_rfl; (focus (refine Or.inl ⟨by rfl, ?_⟩; intro w' hSw; (try dsimp only at hSw); go_simp; with_reducible rfl)); exact hH)
    try simp only [Act.put, List.getElem_toArray, List.getElem_cons_succ, List.getElem_cons_zero, List.setIfInBounds_toArray, List.set_cons_zero, List.set_cons_succ]
    first | (refine wpAnyH_take (i := 7) (v := undef) rfl ?_ ?_ ?_ (fun _ _ _ h => h) ?_ ?_ ?_; kernel_rfl; kernel_rfl; kernel_rfl; exact Or.inr ⟨by rfl, rfl⟩; exact hH) | (refine wpAnyH_take (i := 7) (v := ?_) rfl ?_ ?_ ?_ (fun _ _ _ h => h) ?_ ?_ ?_; rotate_left; kernel_rfl; kernel_rfl; kernel_rfl; (focus (refine Or.inl ⟨by rfl, ?_⟩; intro w' hSw; (try dsimp only at hSw); go_simp)); exact hH) | (refine wpAnyH_take (i := 7) (v := ?_) rfl ?_ ?_ ?_ (fun _ _ _ h => h) ?_ ?_ ?_; rotate_left; kernel_rfl; kernel_rfl; kernel_rfl; (focus (refine Or.inl ⟨by rfl, ?_⟩; intro w' hSw; (try dsimp only at hSw); go_simp; with_reducible rfl)); exact hH)
    try simp only [Act.put, List.getElem_toArray, List.getElem_cons_succ, List.getElem_cons_zero, List.setIfInBounds_toArray, List.set_cons_zero, List.set_cons_succ]
    refine wpAnyH_done (by kernel_rfl) ?_ _
    refine NoPanic.normal ?_
    clear hH KQ
    have hfr := fr1
    clear fr1
    go_wp2
    go_ret
    refine ⟨by simp, fun j => S j ∨ (j ∈ t'.blocks), ⟨T, m, t', mdel id M, ?_⟩, ?_, ?_⟩
    · have a := H.out.apart
      refine ⟨HU.out.1.fr hfr (by rintro (e | e); exact a.1 e; exact a.2.1 e), HD.out.1.is, HB.out.1.fr hfr (by rintro (e | e); exact a.2.2.2.1 e.symm; exact a.2.2.2.2 e), ?_, fun id' => ?_, once_dropId H.out.once, Or.inl H.out.sU, Or.inl H.out.sT, Or.inl H.out.sm, fun y hy => Or.inr hy, ?_⟩
      · rw [HD.out.2, H.out.items, dropId_del H.out.once HK.out]
      · rw [mget_del H.out.map.nodup, H.out.agree, byId, byId, afind_dropId H.out.once]
        by_cases e : id = id'
        · rw [if_pos e, if_pos e]; rfl
        · rw [if_neg e, if_neg e]
      · rintro j (hj | hj)
        · have := H.out.lt j hj; have := HA.out.2.1.size; have := HB.out.2.size; have := hfr.size; omega
        · exact RepH.lt HD.out.1.is.rep j hj
    · have e1 : Fr S wb w1 := hfr.mono fun j _ hj => by rcases hj with rfl | hj; exact H.out.sT; exact H.out.sb j hj
      exact (Fr.of_new HA.out.2.1).trans ((HB.out.2.mono fun j _ hj => by subst hj; exact H.out.sm).trans e1)
    · rintro j (hj | hj)
      · exact Or.inl hj
      · rcases HD.out.1.blocks j hj with e | e
        · exact Or.inl (H.out.sb j e)
        · right
          have := HA.out.2.1.size; have := HB.out.2.size
          have e2 : wb.drew.heap.size = wb.heap.size := rfl
          omega

end Go.Proofs.Ytjlnbpomncglcaa
