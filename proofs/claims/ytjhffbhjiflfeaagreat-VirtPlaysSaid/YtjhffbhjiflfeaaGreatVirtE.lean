/-
  A family: one gains.
-/
import Derived.Test.YtjhffbhjiflfeaaGreatVirtA
import Derived.StillTailTactics
import Derived.Test.YtjhffbhjiflfeaaGreatRegionZC
namespace Go.Proofs.YtjhffbhjiflfeaaGreat
set_option linter.unusedVariables false
set_option linter.unusedSimpArgs false
set_option maxRecDepth 100000
open Go.RowKit Go.Shelf

/-- A member is as it may be. -/
structure MemOk (x : Mem) : Prop where
  t0 : 0 ≤ x.T
  t1 : x.T ≤ 4611686018427387904
  ok : x.s.ok
  many : x.s.many ≤ 1000000
def gainT (x : Mem) (g : Int) : Int := x.T + min g (4611686018427387904 - x.T)
theorem gainT_bounds {x : Mem} (h : MemOk x) {g : Int} (hg : Word g) : 0 ≤ gainT x g ∧ gainT x g ≤ 4611686018427387904 := by
  have h0 := h.t0
  have h1 := h.t1
  have h2 := hg.1
  unfold gainT
  omega
theorem fnd_set (y : Mem) : ∀ {Ms : List Mem} {x : Mem}, fnd y.id Ms = some x → fnd y.id (setM y Ms) = some y
  | [], _, h => by cases h
  | c :: Ms, x, h => by
    unfold fnd at h
    unfold setM
    by_cases e : c.id = y.id
    · rw [if_pos e]
      exact if_pos rfl
    · rw [if_neg e] at h
      rw [if_neg e]
      unfold fnd
      rw [if_neg e]
      exact fnd_set y h
theorem set_set (y z : Mem) (e : y.id = z.id) : ∀ Ms : List Mem, setM z (setM y Ms) = setM z Ms
  | [] => rfl
  | c :: Ms => by
    show setM z (if c.id = y.id then y :: Ms else c :: setM y Ms) = (if c.id = z.id then z :: Ms else c :: setM z Ms)
    by_cases h : c.id = y.id
    · rw [if_pos h, if_pos (h.trans e)]
      show (if y.id = z.id then z :: Ms else _) = _
      rw [if_pos e]
    · rw [if_neg h, if_neg (fun h2 => h (h2.trans e.symm))]
      show (if c.id = z.id then _ else c :: setM z (setM y Ms)) = _
      rw [if_neg (fun h2 => h (h2.trans e.symm)), set_set y z e Ms]

set_option maxHeartbeats 4000000 in
theorem vgain_some (f mb : Nat) (mark id g : Int) (Ms : List Mem) (x : Mem) (w : World) (h : FamAt w f mb mark Ms) (hf : fnd id Ms = some x) (ok : MemOk x) (wg : Word g) :
    Calls Tryz.prog 17 #[.pointer (some ⟨f, 0, none⟩), .int .i64 id, .int .u64 g] w fun e w' => e = .returned (.tuple #[]) ∧
      (if x.up = true then FamAt w' f mb (max mark (x.s.reach (gainT x g))) (setM { x with T := gainT x g, v := x.s.reach (gainT x g) } Ms) else FamAt w' f mb mark (setM { x with T := gainT x g } Ms)) ∧ Fr (fun k => k = f ∨ k = x.m) w w' := by
  have AT : Hid (Calls Tryz.prog 32 #[.pointer (some ⟨f, 0, none⟩), .int .i64 id] w fun e w' => e = .returned (.pointer (some ⟨x.m, 0, none⟩)) ∧ w = w') := by
    have := vat_any f mb mark id Ms w h
    rw [hf] at this
    exact this
  obtain rfl : x.id = id := (fnd_mem hf).2
  have hx := h.mem x (fnd_mem hf).1
  have gb := gainT_bounds ok wg
  have hne : ¬ f = x.m := Blk.ne_of_type h.blk hx.1 (by decide)
  obtain ⟨t, et⟩ : ∃ z, x.T = z := ⟨_, rfl⟩
  have t0 := ok.t0
  have t1 := ok.t1
  have g0 := wg.1
  obtain ⟨T, eT⟩ : ∃ z, gainT x g = z := ⟨_, rfl⟩
  have eT2 : t + min g (4611686018427387904 - t) = T := by rw [← et]; exact eT
  rw [eT] at gb ⊢
  rw [et] at t0 t1
  have bm : Blk w x.m 70 #[.int .u64 t, .int .u64 x.v, .pointer (some ⟨x.p, 0, none⟩), .bool x.up] := by rw [← et]; exact hx.1
  obtain ⟨wa, hwa⟩ : ∃ z, (w.setCell ⟨x.m, 0, none⟩ (.int .u64 T)).drew = z := ⟨_, rfl⟩
  have fr1 : Fr (fun k => k = f ∨ k = x.m) w wa := by rw [← hwa]; exact (Fr.setCell (S := fun k => k = f ∨ k = x.m) (p := ⟨x.m, 0, none⟩) (Fr.refl _ w) (fun _ => Or.inr rfl) _).drew
  have b1 : Blk wa x.m 70 #[.int .u64 T, .int .u64 x.v, .pointer (some ⟨x.p, 0, none⟩), .bool x.up] := by rw [← hwa]; exact Blk.drew (Blk.put bm 0 _)
  have bf : Blk wa f 43 #[.map (some mb), .int .u64 mark] := by rw [← hwa]; exact Blk.drew (Blk.far h.blk (p := ⟨x.m, 0, none⟩) hne _)
  have hr1 : RunAt wa x.p x.q x.s := hx.run fr1 (by rintro k (rfl | rfl); exact Or.inr ⟨_, h.blk⟩; exact Or.inl rfl)
  have hF1 : FamAt wa f mb mark (setM { x with T := T } Ms) := FamAt.set (x := x) (y := { x with T := T }) h hf rfl rfl ⟨b1, hr1⟩ bf (fr1.mono (fun k _ e => e.imp id Or.inl))
  have e1 : IntKind.u64.wrap (4611686018427387904 - t) = 4611686018427387904 - t := by rw [IntKind.wrap_u64]; omega
  have e2 : IntKind.u64.wrap (t + min g (4611686018427387904 - t)) = T := by rw [IntKind.wrap_u64]; omega
  have c0 := bm.get 0 rfl
  have f0 := bm.frozen 0
  have HW := Lib.hid hwa
  have H1 := Lib.hid (And.intro fr1 (And.intro b1 (And.intro hr1 hF1)))
  have HF := Lib.hid hf
  have HOK := Lib.hid ok
  have HGB := Lib.hid gb
  clear h hf hx ok wg hne bm hwa fr1 b1 bf hr1 hF1 eT et gb
  rcases Bool.eq_false_or_eq_true x.up with hb | hb
  rotate_left
  · suffices HS : Calls Tryz.prog 17 #[.pointer (some ⟨f, 0, none⟩), .int .i64 x.id, .int .u64 g] w fun e w' => e = .returned (.tuple #[]) ∧ FamAt w' f mb mark (setM { x with T := T } Ms) ∧ Fr (fun k => k = f ∨ k = x.m) w w' from
      HS.mono (by rintro e w' ⟨h1, h2, h3⟩; exact ⟨h1, by rw [if_neg (by rw [hb]; decide)]; exact h2, h3⟩)
    have c3 : World.cell? wa ⟨x.m, 3, none⟩ = some (.bool false) := by rw [← hb]; exact H1.out.2.1.get 3 rfl
    clear hb
    go_enter Tryz.func17, Tryz.ntmps17
    go_wp2_with fail
    with_reducible refine (AT.out).mono ?_
    rintro e wx ⟨rfl, rfl⟩
    go_upto_region 2 with (fail)
    go_still_tail 14, (by kernel_rfl)
    go_upto_region 3 with (fail)
    try rw [eT2]
    rw [HW.out]
    clear c0 f0 HW e1 e2 eT2
    go_wp2_with fail
    first | go_ret | go_end0
    exact ⟨rfl, H1.out.2.2.2, H1.out.1⟩
  · suffices HS : Calls Tryz.prog 17 #[.pointer (some ⟨f, 0, none⟩), .int .i64 x.id, .int .u64 g] w fun e w' => e = .returned (.tuple #[]) ∧ FamAt w' f mb (max mark (x.s.reach T)) (setM { x with T := T, v := x.s.reach T } Ms) ∧ Fr (fun k => k = f ∨ k = x.m) w w' from
      HS.mono (by rintro e w' ⟨h1, h2, h3⟩; exact ⟨h1, by rw [if_pos hb]; exact h2, h3⟩)
    have c3 : World.cell? wa ⟨x.m, 3, none⟩ = some (.bool true) := by rw [← hb]; exact H1.out.2.1.get 3 rfl
    clear hb
    obtain ⟨v, ev⟩ : ∃ z, x.s.reach T = z := ⟨_, rfl⟩
    rw [ev]
    have RE : Hid (∀ W, RunAt W x.p x.q x.s → Calls Tryz.prog 45 #[.pointer (some ⟨x.p, 0, none⟩), .int .u64 T] W fun e w' => e = .returned (.int .u64 v) ∧ Below W.heap.size W w') := by
      intro W hW
      rw [← ev]
      exact run_reach x.p x.q x.s T W hW HOK.out.ok HOK.out.many ⟨HGB.out.1, by have := HGB.out.2; omega⟩
    clear ev
    go_enter Tryz.func17, Tryz.ntmps17
    go_wp2_with fail
    with_reducible refine (AT.out).mono ?_
    rintro e wx ⟨rfl, rfl⟩
    go_upto_region 2 with (fail)
    go_still_tail 14, (by kernel_rfl)
    go_upto_region 3 with (fail)
    try rw [eT2]
    rw [HW.out]
    clear c0 f0 HW e1 e2 eT2
    go_upto_region 4 with (fail)
    have KP : Hid (∀ w', Below (wa.heap.size) wa w' → (w'.cell? ⟨x.m, 2, none⟩ = some (.pointer (some ⟨x.p, 0, none⟩)) ∧ w'.cell? ⟨x.m, 0, none⟩ = some (.int .u64 T)) ∧ Below (wa.heap.size) wa w') := fun w' hb => ⟨⟨(H1.out.2.1.next hb).get 2 rfl, (H1.out.2.1.next hb).get 0 rfl⟩, hb⟩
    refine wp_region_noPanic ?_
    refine wp_region_Z [11] (fun w' => (w'.cell? ⟨x.m, 2, none⟩ = some (.pointer (some ⟨x.p, 0, none⟩)) ∧ w'.cell? ⟨x.m, 0, none⟩ = some (.int .u64 T)) ∧ Below (wa.heap.size) wa w') (by kernel_rfl) (KP.out _ (below_of_drew ((Below.refl wa.heap.size wa)))) (fun hH => ?_)
    have hbR := below_of_drew ((Below.refl wa.heap.size wa))
    first | (refine wpAnyZ_takeC (i := 0) (v := undef) rfl ?_ ?_ ?_ ?_ (fun _ _ _ h => h) ?_ ?_ ?_; kernel_rfl; kernel_rfl; kernel_rfl; kernel_rfl; exact Or.inr ⟨by rfl, rfl⟩; exact hH) | (refine wpAnyZ_takeC (i := 0) (v := ?_) rfl ?_ ?_ ?_ ?_ (fun _ _ _ h => h) ?_ ?_ ?_; rotate_left; kernel_rfl; kernel_rfl; kernel_rfl; kernel_rfl; (focus (refine Or.inl ⟨by rfl, ?_⟩; intro w' hSw; (try dsimp only at hSw); go_simp)); exact hH) | (refine wpAnyZ_takeC (i := 0) (v := ?_) rfl ?_ ?_ ?_ ?_ (fun _ _ _ h => h) ?_ ?_ ?_; rotate_left; kernel_rfl; kernel_rfl; kernel_rfl; kernel_rfl; (focus (refine Or.inl ⟨by rfl, ?_⟩; intro w' hSw; (try dsimp only at hSw); go_simp; with_reducible rfl)); exact hH)
    try simp only [Act.put, List.getElem_toArray, List.getElem_cons_succ, List.getElem_cons_zero, List.setIfInBounds_toArray, List.set_cons_zero, List.set_cons_succ]
    first | (refine wpAnyZ_takeC (i := 1) (v := undef) rfl ?_ ?_ ?_ ?_ (fun _ _ _ h => h) ?_ ?_ ?_; kernel_rfl; kernel_rfl; kernel_rfl; kernel_rfl; exact Or.inr ⟨by rfl, rfl⟩; exact hH) | (refine wpAnyZ_takeC (i := 1) (v := ?_) rfl ?_ ?_ ?_ ?_ (fun _ _ _ h => h) ?_ ?_ ?_; rotate_left; kernel_rfl; kernel_rfl; kernel_rfl; kernel_rfl; (focus (refine Or.inl ⟨by rfl, ?_⟩; intro w' hSw; (try dsimp only at hSw); go_simp)); exact hH) | (refine wpAnyZ_takeC (i := 1) (v := ?_) rfl ?_ ?_ ?_ ?_ (fun _ _ _ h => h) ?_ ?_ ?_; rotate_left; kernel_rfl; kernel_rfl; kernel_rfl; kernel_rfl; (focus (refine Or.inl ⟨by rfl, ?_⟩; intro w' hSw; (try dsimp only at hSw); go_simp; with_reducible rfl)); exact hH)
    try simp only [Act.put, List.getElem_toArray, List.getElem_cons_succ, List.getElem_cons_zero, List.setIfInBounds_toArray, List.set_cons_zero, List.set_cons_succ]
    first | (refine wpAnyZ_takeC (i := 2) (v := undef) rfl ?_ ?_ ?_ ?_ (fun _ _ _ h => h) ?_ ?_ ?_; kernel_rfl; kernel_rfl; kernel_rfl; kernel_rfl; exact Or.inr ⟨by rfl, rfl⟩; exact hH) | (refine wpAnyZ_takeC (i := 2) (v := ?_) rfl ?_ ?_ ?_ ?_ (fun _ _ _ h => h) ?_ ?_ ?_; rotate_left; kernel_rfl; kernel_rfl; kernel_rfl; kernel_rfl; (focus (refine Or.inl ⟨by rfl, ?_⟩; intro w' hSw; (try dsimp only at hSw); go_simp)); exact hH) | (refine wpAnyZ_takeC (i := 2) (v := ?_) rfl ?_ ?_ ?_ ?_ (fun _ _ _ h => h) ?_ ?_ ?_; rotate_left; kernel_rfl; kernel_rfl; kernel_rfl; kernel_rfl; (focus (refine Or.inl ⟨by rfl, ?_⟩; intro w' hSw; (try dsimp only at hSw); go_simp; with_reducible rfl)); exact hH)
    try simp only [Act.put, List.getElem_toArray, List.getElem_cons_succ, List.getElem_cons_zero, List.setIfInBounds_toArray, List.set_cons_zero, List.set_cons_succ]
    first | (refine wpAnyZ_takeC (i := 3) (v := undef) rfl ?_ ?_ ?_ ?_ (fun _ _ _ h => h) ?_ ?_ ?_; kernel_rfl; kernel_rfl; kernel_rfl; kernel_rfl; exact Or.inr ⟨by rfl, rfl⟩; exact hH) | (refine wpAnyZ_takeC (i := 3) (v := ?_) rfl ?_ ?_ ?_ ?_ (fun _ _ _ h => h) ?_ ?_ ?_; rotate_left; kernel_rfl; kernel_rfl; kernel_rfl; kernel_rfl; (focus (refine Or.inl ⟨by rfl, ?_⟩; intro w' hSw; (try dsimp only at hSw); go_simp)); exact hH) | (refine wpAnyZ_takeC (i := 3) (v := ?_) rfl ?_ ?_ ?_ ?_ (fun _ _ _ h => h) ?_ ?_ ?_; rotate_left; kernel_rfl; kernel_rfl; kernel_rfl; kernel_rfl; (focus (refine Or.inl ⟨by rfl, ?_⟩; intro w' hSw; (try dsimp only at hSw); go_simp; with_reducible rfl)); exact hH)
    try simp only [Act.put, List.getElem_toArray, List.getElem_cons_succ, List.getElem_cons_zero, List.setIfInBounds_toArray, List.set_cons_zero, List.set_cons_succ]
    first | (refine wpAnyZ_takeC (i := 4) (v := undef) rfl ?_ ?_ ?_ ?_ (fun _ _ _ h => h) ?_ ?_ ?_; kernel_rfl; kernel_rfl; kernel_rfl; kernel_rfl; exact Or.inr ⟨by rfl, rfl⟩; exact hH) | (refine wpAnyZ_takeC (i := 4) (v := ?_) rfl ?_ ?_ ?_ ?_ (fun _ _ _ h => h) ?_ ?_ ?_; rotate_left; kernel_rfl; kernel_rfl; kernel_rfl; kernel_rfl; (focus (refine Or.inl ⟨by rfl, ?_⟩; intro w' hSw; (try dsimp only at hSw); go_simp)); exact hH) | (refine wpAnyZ_takeC (i := 4) (v := ?_) rfl ?_ ?_ ?_ ?_ (fun _ _ _ h => h) ?_ ?_ ?_; rotate_left; kernel_rfl; kernel_rfl; kernel_rfl; kernel_rfl; (focus (refine Or.inl ⟨by rfl, ?_⟩; intro w' hSw; (try dsimp only at hSw); go_simp; with_reducible rfl)); exact hH)
    try simp only [Act.put, List.getElem_toArray, List.getElem_cons_succ, List.getElem_cons_zero, List.setIfInBounds_toArray, List.set_cons_zero, List.set_cons_succ]
    first | (refine wpAnyZ_takeC (i := 5) (v := undef) rfl ?_ ?_ ?_ ?_ (fun _ _ _ h => h) ?_ ?_ ?_; kernel_rfl; kernel_rfl; kernel_rfl; kernel_rfl; exact Or.inr ⟨by rfl, rfl⟩; exact hH) | (refine wpAnyZ_takeC (i := 5) (v := ?_) rfl ?_ ?_ ?_ ?_ (fun _ _ _ h => h) ?_ ?_ ?_; rotate_left; kernel_rfl; kernel_rfl; kernel_rfl; kernel_rfl; (focus (refine Or.inl ⟨by rfl, ?_⟩; intro w' hSw; (try dsimp only at hSw); go_simp)); exact hH) | (refine wpAnyZ_takeC (i := 5) (v := ?_) rfl ?_ ?_ ?_ ?_ (fun _ _ _ h => h) ?_ ?_ ?_; rotate_left; kernel_rfl; kernel_rfl; kernel_rfl; kernel_rfl; (focus (refine Or.inl ⟨by rfl, ?_⟩; intro w' hSw; (try dsimp only at hSw); go_simp; with_reducible rfl)); exact hH)
    try simp only [Act.put, List.getElem_toArray, List.getElem_cons_succ, List.getElem_cons_zero, List.setIfInBounds_toArray, List.set_cons_zero, List.set_cons_succ]
    first | (refine wpAnyZ_takeC (i := 6) (v := undef) rfl ?_ ?_ ?_ ?_ (fun _ _ _ h => h) ?_ ?_ ?_; kernel_rfl; kernel_rfl; kernel_rfl; kernel_rfl; exact Or.inr ⟨by rfl, rfl⟩; exact hH) | (refine wpAnyZ_takeC (i := 6) (v := ?_) rfl ?_ ?_ ?_ ?_ (fun _ _ _ h => h) ?_ ?_ ?_; rotate_left; kernel_rfl; kernel_rfl; kernel_rfl; kernel_rfl; (focus (refine Or.inl ⟨by rfl, ?_⟩; intro w' hSw; (try dsimp only at hSw); go_simp)); exact hH) | (refine wpAnyZ_takeC (i := 6) (v := ?_) rfl ?_ ?_ ?_ ?_ (fun _ _ _ h => h) ?_ ?_ ?_; rotate_left; kernel_rfl; kernel_rfl; kernel_rfl; kernel_rfl; (focus (refine Or.inl ⟨by rfl, ?_⟩; intro w' hSw; (try dsimp only at hSw); go_simp; with_reducible rfl)); exact hH)
    try simp only [Act.put, List.getElem_toArray, List.getElem_cons_succ, List.getElem_cons_zero, List.setIfInBounds_toArray, List.set_cons_zero, List.set_cons_succ]
    first | (refine wpAnyZ_takeC (i := 7) (v := undef) rfl ?_ ?_ ?_ ?_ (fun _ _ _ h => h) ?_ ?_ ?_; kernel_rfl; kernel_rfl; kernel_rfl; kernel_rfl; exact Or.inr ⟨by rfl, rfl⟩; exact hH) | (refine wpAnyZ_takeC (i := 7) (v := ?_) rfl ?_ ?_ ?_ ?_ (fun _ _ _ h => h) ?_ ?_ ?_; rotate_left; kernel_rfl; kernel_rfl; kernel_rfl; kernel_rfl; (focus (refine Or.inl ⟨by rfl, ?_⟩; intro w' hSw; (try dsimp only at hSw); go_simp)); exact hH) | (refine wpAnyZ_takeC (i := 7) (v := ?_) rfl ?_ ?_ ?_ ?_ (fun _ _ _ h => h) ?_ ?_ ?_; rotate_left; kernel_rfl; kernel_rfl; kernel_rfl; kernel_rfl; (focus (refine Or.inl ⟨by rfl, ?_⟩; intro w' hSw; (try dsimp only at hSw); go_simp; with_reducible rfl)); exact hH)
    try simp only [Act.put, List.getElem_toArray, List.getElem_cons_succ, List.getElem_cons_zero, List.setIfInBounds_toArray, List.set_cons_zero, List.set_cons_succ]
    first | (refine wpAnyZ_takeC (i := 8) (v := undef) rfl ?_ ?_ ?_ ?_ (fun _ _ _ h => h) ?_ ?_ ?_; kernel_rfl; kernel_rfl; kernel_rfl; kernel_rfl; exact Or.inr ⟨by rfl, rfl⟩; exact hH) | (refine wpAnyZ_takeC (i := 8) (v := ?_) rfl ?_ ?_ ?_ ?_ (fun _ _ _ h => h) ?_ ?_ ?_; rotate_left; kernel_rfl; kernel_rfl; kernel_rfl; kernel_rfl; (focus (refine Or.inl ⟨by rfl, ?_⟩; intro w' hSw; (try dsimp only at hSw); go_simp)); exact hH) | (refine wpAnyZ_takeC (i := 8) (v := ?_) rfl ?_ ?_ ?_ ?_ (fun _ _ _ h => h) ?_ ?_ ?_; rotate_left; kernel_rfl; kernel_rfl; kernel_rfl; kernel_rfl; (focus (refine Or.inl ⟨by rfl, ?_⟩; intro w' hSw; (try dsimp only at hSw); go_simp; with_reducible rfl)); exact hH)
    try simp only [Act.put, List.getElem_toArray, List.getElem_cons_succ, List.getElem_cons_zero, List.setIfInBounds_toArray, List.set_cons_zero, List.set_cons_succ]
    first | (refine wpAnyZ_takeC (i := 9) (v := undef) rfl ?_ ?_ ?_ ?_ (fun _ _ _ h => h) ?_ ?_ ?_; kernel_rfl; kernel_rfl; kernel_rfl; kernel_rfl; exact Or.inr ⟨by rfl, rfl⟩; exact hH) | (refine wpAnyZ_takeC (i := 9) (v := ?_) rfl ?_ ?_ ?_ ?_ (fun _ _ _ h => h) ?_ ?_ ?_; rotate_left; kernel_rfl; kernel_rfl; kernel_rfl; kernel_rfl; (focus (refine Or.inl ⟨by rfl, ?_⟩; intro w' hSw; (try dsimp only at hSw); go_simp)); exact hH) | (refine wpAnyZ_takeC (i := 9) (v := ?_) rfl ?_ ?_ ?_ ?_ (fun _ _ _ h => h) ?_ ?_ ?_; rotate_left; kernel_rfl; kernel_rfl; kernel_rfl; kernel_rfl; (focus (refine Or.inl ⟨by rfl, ?_⟩; intro w' hSw; (try dsimp only at hSw); go_simp; with_reducible rfl)); exact hH)
    try simp only [Act.put, List.getElem_toArray, List.getElem_cons_succ, List.getElem_cons_zero, List.setIfInBounds_toArray, List.set_cons_zero, List.set_cons_succ]
    refine wpAnyZ_ready (rs := [10]) (by kernel_rfl) (by simp) ?_
    refine (AllReadyZ.cons rfl (fun K hK => ?_) AllReadyZ.nil)
    go_simp
    with_reducible refine (RE.out _ (H1.out.2.2.1.next hH.2)).mono ?_
    rintro e w1 ⟨rfl, hb1'⟩
    have hb1 : Below (wa.heap.size) wa w1 := below_next hH.2 hb1'
    try go_wp2_with fail
    have hH1 := KP.out _ hb1
    refine hK.out _ _ (fun _ => hH1) ?_
    clear hK K hH
    have hH := hH1
    clear hH1
    try simp only [Act.put, List.getElem_toArray, List.getElem_cons_succ, List.getElem_cons_zero, List.setIfInBounds_toArray, List.set_cons_zero, List.set_cons_succ]
    refine wpAnyZ_ready (rs := [11]) (by kernel_rfl) (by simp) ?_
    refine (AllReadyZ.cons rfl (fun K hK => ?_) AllReadyZ.nil)
    go_simp
    with_reducible refine (vmade_any f mb mark v (setM { x with T := T } Ms) { x with T := T } _ (H1.out.2.2.2.next hb1) (fnd_set { x with T := T } HF.out)).mono ?_
    rintro e w2 ⟨rfl, gf2, gr2⟩
    have HG := Lib.hid (And.intro gf2 (And.intro gr2 hb1))
    refine hK.out _ _ (fun h => absurd (by simp) h) ?_
    clear hK K
    try simp only [Act.put, List.getElem_toArray, List.getElem_cons_succ, List.getElem_cons_zero, List.setIfInBounds_toArray, List.set_cons_zero, List.set_cons_succ]
    refine wpAnyZ_done (by kernel_rfl) ?_ _
    refine NoPanic.normal ?_
    skip
    go_wp2_with fail
    first | go_ret | go_end0
    have hw := HG.out.1
    rw [set_set { x with T := T } { x with T := T, v := v } rfl] at hw
    exact ⟨rfl, hw, (H1.out.1.then (Fr.of_belowAll (S := fun _ => False) HG.out.2.2) (fun _ _ h => h.elim)).trans HG.out.2.1⟩

end Go.Proofs.YtjhffbhjiflfeaaGreat
