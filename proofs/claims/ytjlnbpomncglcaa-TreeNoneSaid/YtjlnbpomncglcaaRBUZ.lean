/-
  Red-black trees in memory (u): whether all is well.
-/
import Derived.Test.YtjlnbpomncglcaaProg
import Derived.Test.YtjlnbpomncglcaaRBUY
import Derived.Test.YtjlnbpomncglcaaRegionZR
namespace Go.Proofs.Ytjlnbpomncglcaa
set_option linter.unusedVariables false
set_option linter.unusedSimpArgs false
set_option maxRecDepth 100000
open Go.RowKit Go.Shelf

attribute [local go_sem] Oper.semAt_some

set_option maxHeartbeats 16000000 in
theorem ru_Well (T : Nat) (t : RB Int) (w : World) (h : TrIsU w T t) (hs : t.size ≤ 1000000) :
    Calls Try.prog 34 #[.pointer (some ⟨T, 0, none⟩), (.func (.func 35) #[] #[])] w fun e w' => e = .returned (.bool true) ∧ Below w.heap.size w w' := by
  have HT := Lib.hid (And.intro h hs)
  have q := fun w => eql_fnG (w := w) 57 (.func 35) #[] #[] Try.underlying57
  clear h hs
  refine calls_of_wp_marks Try.func34 rfl ?_
  simp only [Try.ntmps34, List.size_toArray, List.length_cons, List.length_nil, Nat.reduceAdd, Nat.reduceSub, Array.replicate_succ, Array.replicate_zero, List.push_toArray, List.append_toArray, List.nil_append, List.cons_append]
  have hba : Below w.heap.size w (w.alloc (.cells #[.bool false] 4)) := by go_grown
  have HTA := Lib.hid (HT.out.1.next hba)
  clear hba
  have x0 : (w.alloc (.cells #[.bool false] 4)).cell? ⟨T, 2, none⟩ = some (.pointer (ptrO t)) := by rw [← ptrV_eq]; exact HTA.out.blk.get 2 rfl
  go_wp2_with fail
  with_reducible refine (ru_none T _ HTA.out.tre).mono ?_
  rintro e wx ⟨rfl, rfl⟩
  go_wp2_with fail
  have IS : Hid (Calls Try.prog 62 #[.pointer (ptrO t)] (w.alloc (.cells #[.bool false] 4)) fun e w' => e = .returned (.bool false) ∧ (w.alloc (.cells #[.bool false] 4)) = w') := by
    have := ru_is t _ HTA.out.rep
    rw [HT.out.1.black, ptrV_eq] at this
    exact this
  with_reducible refine (IS.out).mono ?_
  rintro e wx ⟨rfl, rfl⟩
  clear IS x0 q
  go_wp2_with fail
  with_reducible refine (ru_Each _ rfl _).mono ?_
  rintro e wx ⟨rfl, rfl⟩
  go_wp2_with fail
  obtain ⟨W0, hW0⟩ : ∃ x, ((w.alloc (.cells #[.bool false] 4)).alloc (.cells #[.pointer none] 112)).alloc (.cells #[.pointer (some ⟨T, 0, none⟩)] 24) = x := ⟨_, rfl⟩
  have bR : Blk W0 w.heap.size 4 #[.bool false] := by rw [← hW0]; exact ((Blk.new w _ _).alloc _).alloc _
  have bL : Blk W0 (w.heap.size + 1) 112 #[.pointer none] := by rw [← hW0]; exact (Blk.new_at (by simp)).alloc _
  have bT : Blk W0 (w.heap.size + 2) 24 #[.pointer (some ⟨T, 0, none⟩)] := by rw [← hW0]; exact Blk.new_at (by simp)
  have hB0 : Below w.heap.size w W0 := by rw [← hW0]; go_grown
  have hsz : W0.heap.size = w.heap.size + 3 := by rw [← hW0]; simp
  rw [hW0]
  have HSZ := Lib.hid hsz
  clear hW0 HTA hsz
  have h0i := HT.out.1.next hB0
  refine wp_range (gf := 70) (lb := #[.pointer (some ⟨w.heap.size + 2, 0, none⟩)]) rfl (enters_of Try.func70 (by kernel_rfl) rfl) (ru_yields T (w.heap.size + 2) t) (fun _ _ => rfl)
    (fun k W => TrIsU W T t ∧ Blk W (w.heap.size + 2) 24 #[.pointer (some ⟨T, 0, none⟩)] ∧ Blk W w.heap.size 4 #[.bool false] ∧ (∃ v, Blk W (w.heap.size + 1) 112 #[v] ∧ ((k = 0 ∧ v = .pointer none) ∨ ∃ (j q : Nat) (p : RK × Int), k = j + 1 ∧ v = .pointer (some ⟨q, 0, none⟩) ∧ t.items[j]? = some p ∧ Blk W q 31 #[.int .u64 p.1.1, .int .i64 p.1.2] ∧ w.heap.size + 3 ≤ q)) ∧ Below w.heap.size w W ∧ W0.heap.size ≤ W.heap.size)
    (fun _ _ _ => False) ?hI (fun _ _ _ _ h _ => h) (fun k A h => ⟨h.1, h.2.1⟩) ?h0 ?hround ?hdone (fun _ _ _ _ h _ => h.elim)
  case hI =>
    rintro k A C ⟨h1, h2, h3, ⟨v, h4, h5⟩, h6, h7⟩ hs
    refine ⟨h1.stays hs, h2.stays hs, h3.stays hs, ⟨v, h4.stays hs, ?_⟩, below_stays h6 hs (by have := HSZ.out; omega), Nat.le_trans h7 hs.size⟩
    rcases h5 with h5 | ⟨j, q, p, e1, e2, e3, e4, e5⟩
    · exact Or.inl h5
    · exact Or.inr ⟨j, q, p, e1, e2, e3, e4.stays hs, e5⟩
  case h0 => exact ⟨h0i, bT, bR, ⟨_, bL, Or.inl ⟨rfl, rfl⟩⟩, hB0, Nat.le_refl _⟩
  case hround =>
    rintro k W hk ⟨h1, h2, h3, ⟨v, h4, h5⟩, h6, h7⟩ hlt
    obtain ⟨kk, vv, q1⟩ : ∃ kk vv, t.items[k]? = some (kk, vv) := ⟨(t.items[k]).1, (t.items[k]).2, List.getElem?_eq_getElem hk⟩
    rw [encRB_at q1]
    have HQ := Lib.hid (And.intro q1 hk)
    have HI := Lib.hid (And.intro h1 (And.intro h2 (And.intro h3 (And.intro h4 (And.intro h5 (And.intro h6 h7))))))
    clear h1 h2 h3 h4 h5 h6 h7 q1 hk bR bL bT hB0 h0i
    gi_wp2
    refine ⟨(Holds.refl hlt).alloc _, fun W2 hs => ?_⟩
    have bN : Blk W2 W.heap.size 31 #[.int .u64 kk.1, .int .i64 kk.2] := (Blk.new W _ _).stays hs
    have b1 := TrIsU.stays (HI.out.1.next (Below.alloc (Below.refl W.heap.size W) (Nat.le_refl _) (.cells #[.int .u64 kk.1, .int .i64 kk.2] 31))) hs
    have b2 := (HI.out.2.1.alloc (.cells #[.int .u64 kk.1, .int .i64 kk.2] 31)).stays hs
    have b3 := (HI.out.2.2.1.alloc (.cells #[.int .u64 kk.1, .int .i64 kk.2] 31)).stays hs
    have b4 := (HI.out.2.2.2.1.alloc (.cells #[.int .u64 kk.1, .int .i64 kk.2] 31)).stays hs
    have b6 : Below w.heap.size w W2 := below_stays (HI.out.2.2.2.2.2.1.alloc (by have := HI.out.2.2.2.2.2.2; have := HSZ.out; omega) _) hs (by have := HSZ.out; omega)
    have b7 : W0.heap.size + 1 < W2.heap.size := by have := hs.size; simp only [World.size_alloc] at this; omega
    have b8 : W.heap.size < W2.heap.size := bN.lt
    have HX := Lib.hid (And.intro bN (And.intro b1 (And.intro b2 (And.intro b3 (And.intro b4 (And.intro b6 (And.intro b7 (And.intro b8 hlt))))))))
    have hd : 1 ≤ 5 := by omega
    rcases HI.out.2.2.2.2.1 with ⟨hk0, rfl⟩ | ⟨j, q, p, rfl, rfl, e3, e4, e5⟩
    · clear hk0
      have xl := b4.get 0 rfl
      have fl := b4.frozen 0
      clear hs bN b1 b2 b3 b4 b6 b7 b8 hlt
      gi_upto_region 6 with (fail)
      refine wpIn_region_ZR [] (fun W' => W'.cell? ⟨w.heap.size + 1, 0, none⟩ = some (.pointer none)) (by kernel_rfl) xl (fun hH => ?_)
      first | (refine wpAnyR_take (i := 0) (v := undef) rfl ?_ ?_ ?_ ?_ ?_ (fun _ _ _ h => h) ?_ ?_ ?_; kernel_rfl; kernel_rfl; kernel_rfl; kernel_rfl; kernel_rfl; exact Or.inr ⟨by rfl, rfl⟩; exact hH) | (refine wpAnyR_take (i := 0) (v := ?_) rfl ?_ ?_ ?_ ?_ ?_ (fun _ _ _ h => h) ?_ ?_ ?_; rotate_left; kernel_rfl; kernel_rfl; kernel_rfl; kernel_rfl; kernel_rfl; (focus (refine Or.inl ⟨by rfl, ?_⟩; intro w' hSw; (try dsimp only at hSw); go_simp)); exact hH) | (refine wpAnyR_take (i := 0) (v := ?_) rfl ?_ ?_ ?_ ?_ ?_ (fun _ _ _ h => h) ?_ ?_ ?_; rotate_left; kernel_rfl; kernel_rfl; kernel_rfl; kernel_rfl; kernel_rfl; (focus (refine Or.inl ⟨by rfl, ?_⟩; intro w' hSw; (try dsimp only at hSw); go_simp; with_reducible rfl)); exact hH)
      try simp only [Act.put, List.getElem_toArray, List.getElem_cons_succ, List.getElem_cons_zero, List.setIfInBounds_toArray, List.set_cons_zero, List.set_cons_succ]
      first | (refine wpAnyR_take (i := 1) (v := undef) rfl ?_ ?_ ?_ ?_ ?_ (fun _ _ _ h => h) ?_ ?_ ?_; kernel_rfl; kernel_rfl; kernel_rfl; kernel_rfl; kernel_rfl; exact Or.inr ⟨by rfl, rfl⟩; exact hH) | (refine wpAnyR_take (i := 1) (v := ?_) rfl ?_ ?_ ?_ ?_ ?_ (fun _ _ _ h => h) ?_ ?_ ?_; rotate_left; kernel_rfl; kernel_rfl; kernel_rfl; kernel_rfl; kernel_rfl; (focus (refine Or.inl ⟨by rfl, ?_⟩; intro w' hSw; (try dsimp only at hSw); go_simp)); exact hH) | (refine wpAnyR_take (i := 1) (v := ?_) rfl ?_ ?_ ?_ ?_ ?_ (fun _ _ _ h => h) ?_ ?_ ?_; rotate_left; kernel_rfl; kernel_rfl; kernel_rfl; kernel_rfl; kernel_rfl; (focus (refine Or.inl ⟨by rfl, ?_⟩; intro w' hSw; (try dsimp only at hSw); go_simp; with_reducible rfl)); exact hH)
      try simp only [Act.put, List.getElem_toArray, List.getElem_cons_succ, List.getElem_cons_zero, List.setIfInBounds_toArray, List.set_cons_zero, List.set_cons_succ]
      first | (refine wpAnyR_take (i := 2) (v := undef) rfl ?_ ?_ ?_ ?_ ?_ (fun _ _ _ h => h) ?_ ?_ ?_; kernel_rfl; kernel_rfl; kernel_rfl; kernel_rfl; kernel_rfl; exact Or.inr ⟨by rfl, rfl⟩; exact hH) | (refine wpAnyR_take (i := 2) (v := ?_) rfl ?_ ?_ ?_ ?_ ?_ (fun _ _ _ h => h) ?_ ?_ ?_; rotate_left; kernel_rfl; kernel_rfl; kernel_rfl; kernel_rfl; kernel_rfl; (focus (refine Or.inl ⟨by rfl, ?_⟩; intro w' hSw; (try dsimp only at hSw); go_simp)); exact hH) | (refine wpAnyR_take (i := 2) (v := ?_) rfl ?_ ?_ ?_ ?_ ?_ (fun _ _ _ h => h) ?_ ?_ ?_; rotate_left; kernel_rfl; kernel_rfl; kernel_rfl; kernel_rfl; kernel_rfl; (focus (refine Or.inl ⟨by rfl, ?_⟩; intro w' hSw; (try dsimp only at hSw); go_simp; with_reducible rfl)); exact hH)
      try simp only [Act.put, List.getElem_toArray, List.getElem_cons_succ, List.getElem_cons_zero, List.setIfInBounds_toArray, List.set_cons_zero, List.set_cons_succ]
      first | (refine wpAnyR_take (i := 3) (v := undef) rfl ?_ ?_ ?_ ?_ ?_ (fun _ _ _ h => h) ?_ ?_ ?_; kernel_rfl; kernel_rfl; kernel_rfl; kernel_rfl; kernel_rfl; exact Or.inr ⟨by rfl, rfl⟩; exact hH) | (refine wpAnyR_take (i := 3) (v := ?_) rfl ?_ ?_ ?_ ?_ ?_ (fun _ _ _ h => h) ?_ ?_ ?_; rotate_left; kernel_rfl; kernel_rfl; kernel_rfl; kernel_rfl; kernel_rfl; (focus (refine Or.inl ⟨by rfl, ?_⟩; intro w' hSw; (try dsimp only at hSw); go_simp)); exact hH) | (refine wpAnyR_take (i := 3) (v := ?_) rfl ?_ ?_ ?_ ?_ ?_ (fun _ _ _ h => h) ?_ ?_ ?_; rotate_left; kernel_rfl; kernel_rfl; kernel_rfl; kernel_rfl; kernel_rfl; (focus (refine Or.inl ⟨by rfl, ?_⟩; intro w' hSw; (try dsimp only at hSw); go_simp; with_reducible rfl)); exact hH)
      try simp only [Act.put, List.getElem_toArray, List.getElem_cons_succ, List.getElem_cons_zero, List.setIfInBounds_toArray, List.set_cons_zero, List.set_cons_succ]
      first | (refine wpAnyR_take (i := 4) (v := undef) rfl ?_ ?_ ?_ ?_ ?_ (fun _ _ _ h => h) ?_ ?_ ?_; kernel_rfl; kernel_rfl; kernel_rfl; kernel_rfl; kernel_rfl; exact Or.inr ⟨by rfl, rfl⟩; exact hH) | (refine wpAnyR_take (i := 4) (v := ?_) rfl ?_ ?_ ?_ ?_ ?_ (fun _ _ _ h => h) ?_ ?_ ?_; rotate_left; kernel_rfl; kernel_rfl; kernel_rfl; kernel_rfl; kernel_rfl; (focus (refine Or.inl ⟨by rfl, ?_⟩; intro w' hSw; (try dsimp only at hSw); go_simp)); exact hH) | (refine wpAnyR_take (i := 4) (v := ?_) rfl ?_ ?_ ?_ ?_ ?_ (fun _ _ _ h => h) ?_ ?_ ?_; rotate_left; kernel_rfl; kernel_rfl; kernel_rfl; kernel_rfl; kernel_rfl; (focus (refine Or.inl ⟨by rfl, ?_⟩; intro w' hSw; (try dsimp only at hSw); go_simp; with_reducible rfl)); exact hH)
      try simp only [Act.put, List.getElem_toArray, List.getElem_cons_succ, List.getElem_cons_zero, List.setIfInBounds_toArray, List.set_cons_zero, List.set_cons_succ]
      first | (refine wpAnyR_take (i := 5) (v := undef) rfl ?_ ?_ ?_ ?_ ?_ (fun _ _ _ h => h) ?_ ?_ ?_; kernel_rfl; kernel_rfl; kernel_rfl; kernel_rfl; kernel_rfl; exact Or.inr ⟨by rfl, rfl⟩; exact hH) | (refine wpAnyR_take (i := 5) (v := ?_) rfl ?_ ?_ ?_ ?_ ?_ (fun _ _ _ h => h) ?_ ?_ ?_; rotate_left; kernel_rfl; kernel_rfl; kernel_rfl; kernel_rfl; kernel_rfl; (focus (refine Or.inl ⟨by rfl, ?_⟩; intro w' hSw; (try dsimp only at hSw); go_simp)); exact hH) | (refine wpAnyR_take (i := 5) (v := ?_) rfl ?_ ?_ ?_ ?_ ?_ (fun _ _ _ h => h) ?_ ?_ ?_; rotate_left; kernel_rfl; kernel_rfl; kernel_rfl; kernel_rfl; kernel_rfl; (focus (refine Or.inl ⟨by rfl, ?_⟩; intro w' hSw; (try dsimp only at hSw); go_simp; with_reducible rfl)); exact hH)
      try simp only [Act.put, List.getElem_toArray, List.getElem_cons_succ, List.getElem_cons_zero, List.setIfInBounds_toArray, List.set_cons_zero, List.set_cons_succ]
      first | (refine wpAnyR_take (i := 6) (v := undef) rfl ?_ ?_ ?_ ?_ ?_ (fun _ _ _ h => h) ?_ ?_ ?_; kernel_rfl; kernel_rfl; kernel_rfl; kernel_rfl; kernel_rfl; exact Or.inr ⟨by rfl, rfl⟩; exact hH) | (refine wpAnyR_take (i := 6) (v := ?_) rfl ?_ ?_ ?_ ?_ ?_ (fun _ _ _ h => h) ?_ ?_ ?_; rotate_left; kernel_rfl; kernel_rfl; kernel_rfl; kernel_rfl; kernel_rfl; (focus (refine Or.inl ⟨by rfl, ?_⟩; intro w' hSw; (try dsimp only at hSw); go_simp)); exact hH) | (refine wpAnyR_take (i := 6) (v := ?_) rfl ?_ ?_ ?_ ?_ ?_ (fun _ _ _ h => h) ?_ ?_ ?_; rotate_left; kernel_rfl; kernel_rfl; kernel_rfl; kernel_rfl; kernel_rfl; (focus (refine Or.inl ⟨by rfl, ?_⟩; intro w' hSw; (try dsimp only at hSw); go_simp; with_reducible rfl)); exact hH)
      try simp only [Act.put, List.getElem_toArray, List.getElem_cons_succ, List.getElem_cons_zero, List.setIfInBounds_toArray, List.set_cons_zero, List.set_cons_succ]
      first | (refine wpAnyR_take (i := 7) (v := undef) rfl ?_ ?_ ?_ ?_ ?_ (fun _ _ _ h => h) ?_ ?_ ?_; kernel_rfl; kernel_rfl; kernel_rfl; kernel_rfl; kernel_rfl; exact Or.inr ⟨by rfl, rfl⟩; exact hH) | (refine wpAnyR_take (i := 7) (v := ?_) rfl ?_ ?_ ?_ ?_ ?_ (fun _ _ _ h => h) ?_ ?_ ?_; rotate_left; kernel_rfl; kernel_rfl; kernel_rfl; kernel_rfl; kernel_rfl; (focus (refine Or.inl ⟨by rfl, ?_⟩; intro w' hSw; (try dsimp only at hSw); go_simp)); exact hH) | (refine wpAnyR_take (i := 7) (v := ?_) rfl ?_ ?_ ?_ ?_ ?_ (fun _ _ _ h => h) ?_ ?_ ?_; rotate_left; kernel_rfl; kernel_rfl; kernel_rfl; kernel_rfl; kernel_rfl; (focus (refine Or.inl ⟨by rfl, ?_⟩; intro w' hSw; (try dsimp only at hSw); go_simp; with_reducible rfl)); exact hH)
      try simp only [Act.put, List.getElem_toArray, List.getElem_cons_succ, List.getElem_cons_zero, List.setIfInBounds_toArray, List.set_cons_zero, List.set_cons_succ]
      first | (refine wpAnyR_take (i := 8) (v := undef) rfl ?_ ?_ ?_ ?_ ?_ (fun _ _ _ h => h) ?_ ?_ ?_; kernel_rfl; kernel_rfl; kernel_rfl; kernel_rfl; kernel_rfl; exact Or.inr ⟨by rfl, rfl⟩; exact hH) | (refine wpAnyR_take (i := 8) (v := ?_) rfl ?_ ?_ ?_ ?_ ?_ (fun _ _ _ h => h) ?_ ?_ ?_; rotate_left; kernel_rfl; kernel_rfl; kernel_rfl; kernel_rfl; kernel_rfl; (focus (refine Or.inl ⟨by rfl, ?_⟩; intro w' hSw; (try dsimp only at hSw); go_simp)); exact hH) | (refine wpAnyR_take (i := 8) (v := ?_) rfl ?_ ?_ ?_ ?_ ?_ (fun _ _ _ h => h) ?_ ?_ ?_; rotate_left; kernel_rfl; kernel_rfl; kernel_rfl; kernel_rfl; kernel_rfl; (focus (refine Or.inl ⟨by rfl, ?_⟩; intro w' hSw; (try dsimp only at hSw); go_simp; with_reducible rfl)); exact hH)
      try simp only [Act.put, List.getElem_toArray, List.getElem_cons_succ, List.getElem_cons_zero, List.setIfInBounds_toArray, List.set_cons_zero, List.set_cons_succ]
      first | (refine wpAnyR_take (i := 9) (v := undef) rfl ?_ ?_ ?_ ?_ ?_ (fun _ _ _ h => h) ?_ ?_ ?_; kernel_rfl; kernel_rfl; kernel_rfl; kernel_rfl; kernel_rfl; exact Or.inr ⟨by rfl, rfl⟩; exact hH) | (refine wpAnyR_take (i := 9) (v := ?_) rfl ?_ ?_ ?_ ?_ ?_ (fun _ _ _ h => h) ?_ ?_ ?_; rotate_left; kernel_rfl; kernel_rfl; kernel_rfl; kernel_rfl; kernel_rfl; (focus (refine Or.inl ⟨by rfl, ?_⟩; intro w' hSw; (try dsimp only at hSw); go_simp)); exact hH) | (refine wpAnyR_take (i := 9) (v := ?_) rfl ?_ ?_ ?_ ?_ ?_ (fun _ _ _ h => h) ?_ ?_ ?_; rotate_left; kernel_rfl; kernel_rfl; kernel_rfl; kernel_rfl; kernel_rfl; (focus (refine Or.inl ⟨by rfl, ?_⟩; intro w' hSw; (try dsimp only at hSw); go_simp; with_reducible rfl)); exact hH)
      try simp only [Act.put, List.getElem_toArray, List.getElem_cons_succ, List.getElem_cons_zero, List.setIfInBounds_toArray, List.set_cons_zero, List.set_cons_succ]
      refine wpAnyR_done (by kernel_rfl) ?_ _
      have hbx : Below W2.heap.size W2 W2.drew := below_of_drew (Below.refl _ _)
      clear hH xl fl
      generalize W2.drew = wd at hbx ⊢
      have HBX := Lib.hid hbx
      clear hbx
      have xl := (HX.out.2.2.2.2.1.next HBX.out).get 0 rfl
      have fl := (HX.out.2.2.2.2.1.next HBX.out).frozen 0
      gi_wp2
      have hsz := HSZ.out
      have hTl := HT.out.1.blk.lt
      have FX : Fr (fun j => j = w.heap.size + 1) W2 (wd.setCell ⟨w.heap.size + 1, 0, none⟩ (.pointer (some ⟨W.heap.size, 0, none⟩))) := (Fr.of_new (S := fun j => j = w.heap.size + 1) HBX.out).setCell (p := ⟨w.heap.size + 1, 0, none⟩) (fun _ => rfl) _
      have h9 := HX.out.2.2.2.2.2.2.2.2
      refine ⟨((Holds.refl HX.out.2.2.2.2.2.2.1).next HBX.out).set (p := ⟨w.heap.size + 1, 0, none⟩) (show w.heap.size + 1 ≠ W0.heap.size by omega) (show w.heap.size + 1 ≠ W0.heap.size + 1 by omega) _, HX.out.2.1.fr FX (by show ¬ _ = _; omega) (fun x hx => by have := RepU.lt HT.out.1.rep x hx; show ¬ _ = _; omega), HX.out.2.2.1.fr FX (by show ¬ _ = _; omega), HX.out.2.2.2.1.fr FX (by show ¬ _ = _; omega), ?_, HX.out.2.2.2.2.2.1.trans (FX.below (by have := HX.out.2.2.2.2.2.1.size; omega) (fun j hj hn => by have hn : j = w.heap.size + 1 := hn; omega)), Nat.le_trans (by have := HX.out.2.2.2.2.2.2.1; omega) FX.size⟩
      have b10 := (HX.out.2.2.2.2.1.next HBX.out).put 0 (.pointer (some ⟨W.heap.size, 0, none⟩))
      have b11 := HX.out.1.fr FX (show ¬ _ = _ by omega)
      have h12 : w.heap.size + 3 ≤ W.heap.size := by omega
      first
      | exact ⟨_, b10, Or.inr ⟨_, W.heap.size, (kk, vv), rfl, rfl, HQ.out.1, b11, h12⟩⟩
      | (refine ⟨_, b10, Or.inr ?_⟩; exact ⟨_, rfl, W.heap.size, rfl, kk.1, kk.2, ⟨vv, HQ.out.1⟩, b11, h12⟩)
    · have b9 := (e4.alloc (.cells #[.int .u64 kk.1, .int .i64 kk.2] 31)).stays hs
      have HE := Lib.hid (And.intro e3 (And.intro b9 e5))
      have hkl : klt p.1 kk = true := by
        have h1 := HI.out.1.rises
        have h2 := HQ.out.1
        have h3 := e3
        have hj : j < t.items.length := (List.getElem?_eq_some_iff.1 e3).1
        have hk2 : j + 1 < t.items.length := (List.getElem?_eq_some_iff.1 h2).1
        rw [List.getElem?_eq_getElem hj] at h3
        rw [List.getElem?_eq_getElem hk2] at h2
        have := List.pairwise_iff_getElem.1 h1 j (j + 1) hj hk2 (by have := HSZ.out; omega)
        rw [Option.some.inj h3, Option.some.inj h2] at this
        exact this
      have HKL := Lib.hid hkl
      clear hs bN b1 b2 b3 b4 b6 b7 b8 b9 hlt e3 e4 e5 hkl
      gi_upto_region 6 with (fail)
      refine wpIn_region_ZR [] (fun W' => (W'.cell? ⟨w.heap.size + 1, 0, none⟩ = some (.pointer (some ⟨q, 0, none⟩)) ∧ W'.cell? ⟨q, 0, none⟩ = some (.int .u64 p.1.1) ∧ W'.cell? ⟨q, 1, none⟩ = some (.int .i64 p.1.2) ∧ W'.cell? ⟨W.heap.size, 0, none⟩ = some (.int .u64 kk.1) ∧ W'.cell? ⟨W.heap.size, 1, none⟩ = some (.int .i64 kk.2)) ∧ Below W2.heap.size W2 W') (by kernel_rfl) ⟨⟨HX.out.2.2.2.2.1.get 0 rfl, HE.out.2.1.get 0 rfl, HE.out.2.1.get 1 rfl, HX.out.1.get 0 rfl, HX.out.1.get 1 rfl⟩, below_of_drew (Below.refl _ _)⟩ (fun hH => ?_)
      first | (refine wpAnyR_take (i := 0) (v := undef) rfl ?_ ?_ ?_ ?_ ?_ (fun _ _ _ h => h) ?_ ?_ ?_; kernel_rfl; kernel_rfl; kernel_rfl; kernel_rfl; kernel_rfl; exact Or.inr ⟨by rfl, rfl⟩; exact hH) | (refine wpAnyR_take (i := 0) (v := ?_) rfl ?_ ?_ ?_ ?_ ?_ (fun _ _ _ h => h) ?_ ?_ ?_; rotate_left; kernel_rfl; kernel_rfl; kernel_rfl; kernel_rfl; kernel_rfl; (focus (refine Or.inl ⟨by rfl, ?_⟩; intro w' hSw; (try dsimp only at hSw); go_simp)); exact hH) | (refine wpAnyR_take (i := 0) (v := ?_) rfl ?_ ?_ ?_ ?_ ?_ (fun _ _ _ h => h) ?_ ?_ ?_; rotate_left; kernel_rfl; kernel_rfl; kernel_rfl; kernel_rfl; kernel_rfl; (focus (refine Or.inl ⟨by rfl, ?_⟩; intro w' hSw; (try dsimp only at hSw); go_simp; with_reducible rfl)); exact hH)
      try simp only [Act.put, List.getElem_toArray, List.getElem_cons_succ, List.getElem_cons_zero, List.setIfInBounds_toArray, List.set_cons_zero, List.set_cons_succ]
      first | (refine wpAnyR_take (i := 1) (v := undef) rfl ?_ ?_ ?_ ?_ ?_ (fun _ _ _ h => h) ?_ ?_ ?_; kernel_rfl; kernel_rfl; kernel_rfl; kernel_rfl; kernel_rfl; exact Or.inr ⟨by rfl, rfl⟩; exact hH) | (refine wpAnyR_take (i := 1) (v := ?_) rfl ?_ ?_ ?_ ?_ ?_ (fun _ _ _ h => h) ?_ ?_ ?_; rotate_left; kernel_rfl; kernel_rfl; kernel_rfl; kernel_rfl; kernel_rfl; (focus (refine Or.inl ⟨by rfl, ?_⟩; intro w' hSw; (try dsimp only at hSw); go_simp)); exact hH) | (refine wpAnyR_take (i := 1) (v := ?_) rfl ?_ ?_ ?_ ?_ ?_ (fun _ _ _ h => h) ?_ ?_ ?_; rotate_left; kernel_rfl; kernel_rfl; kernel_rfl; kernel_rfl; kernel_rfl; (focus (refine Or.inl ⟨by rfl, ?_⟩; intro w' hSw; (try dsimp only at hSw); go_simp; with_reducible rfl)); exact hH)
      try simp only [Act.put, List.getElem_toArray, List.getElem_cons_succ, List.getElem_cons_zero, List.setIfInBounds_toArray, List.set_cons_zero, List.set_cons_succ]
      first | (refine wpAnyR_take (i := 2) (v := undef) rfl ?_ ?_ ?_ ?_ ?_ (fun _ _ _ h => h) ?_ ?_ ?_; kernel_rfl; kernel_rfl; kernel_rfl; kernel_rfl; kernel_rfl; exact Or.inr ⟨by rfl, rfl⟩; exact hH) | (refine wpAnyR_take (i := 2) (v := ?_) rfl ?_ ?_ ?_ ?_ ?_ (fun _ _ _ h => h) ?_ ?_ ?_; rotate_left; kernel_rfl; kernel_rfl; kernel_rfl; kernel_rfl; kernel_rfl; (focus (refine Or.inl ⟨by rfl, ?_⟩; intro w' hSw; (try dsimp only at hSw); go_simp)); exact hH) | (refine wpAnyR_take (i := 2) (v := ?_) rfl ?_ ?_ ?_ ?_ ?_ (fun _ _ _ h => h) ?_ ?_ ?_; rotate_left; kernel_rfl; kernel_rfl; kernel_rfl; kernel_rfl; kernel_rfl; (focus (refine Or.inl ⟨by rfl, ?_⟩; intro w' hSw; (try dsimp only at hSw); go_simp; with_reducible rfl)); exact hH)
      try simp only [Act.put, List.getElem_toArray, List.getElem_cons_succ, List.getElem_cons_zero, List.setIfInBounds_toArray, List.set_cons_zero, List.set_cons_succ]
      first | (refine wpAnyR_take (i := 3) (v := undef) rfl ?_ ?_ ?_ ?_ ?_ (fun _ _ _ h => h) ?_ ?_ ?_; kernel_rfl; kernel_rfl; kernel_rfl; kernel_rfl; kernel_rfl; exact Or.inr ⟨by rfl, rfl⟩; exact hH) | (refine wpAnyR_take (i := 3) (v := ?_) rfl ?_ ?_ ?_ ?_ ?_ (fun _ _ _ h => h) ?_ ?_ ?_; rotate_left; kernel_rfl; kernel_rfl; kernel_rfl; kernel_rfl; kernel_rfl; (focus (refine Or.inl ⟨by rfl, ?_⟩; intro w' hSw; (try dsimp only at hSw); go_simp)); exact hH) | (refine wpAnyR_take (i := 3) (v := ?_) rfl ?_ ?_ ?_ ?_ ?_ (fun _ _ _ h => h) ?_ ?_ ?_; rotate_left; kernel_rfl; kernel_rfl; kernel_rfl; kernel_rfl; kernel_rfl; (focus (refine Or.inl ⟨by rfl, ?_⟩; intro w' hSw; (try dsimp only at hSw); go_simp; with_reducible rfl)); exact hH)
      try simp only [Act.put, List.getElem_toArray, List.getElem_cons_succ, List.getElem_cons_zero, List.setIfInBounds_toArray, List.set_cons_zero, List.set_cons_succ]
      first | (refine wpAnyR_take (i := 4) (v := undef) rfl ?_ ?_ ?_ ?_ ?_ (fun _ _ _ h => h) ?_ ?_ ?_; kernel_rfl; kernel_rfl; kernel_rfl; kernel_rfl; kernel_rfl; exact Or.inr ⟨by rfl, rfl⟩; exact hH) | (refine wpAnyR_take (i := 4) (v := ?_) rfl ?_ ?_ ?_ ?_ ?_ (fun _ _ _ h => h) ?_ ?_ ?_; rotate_left; kernel_rfl; kernel_rfl; kernel_rfl; kernel_rfl; kernel_rfl; (focus (refine Or.inl ⟨by rfl, ?_⟩; intro w' hSw; (try dsimp only at hSw); go_simp)); exact hH) | (refine wpAnyR_take (i := 4) (v := ?_) rfl ?_ ?_ ?_ ?_ ?_ (fun _ _ _ h => h) ?_ ?_ ?_; rotate_left; kernel_rfl; kernel_rfl; kernel_rfl; kernel_rfl; kernel_rfl; (focus (refine Or.inl ⟨by rfl, ?_⟩; intro w' hSw; (try dsimp only at hSw); go_simp; with_reducible rfl)); exact hH)
      try simp only [Act.put, List.getElem_toArray, List.getElem_cons_succ, List.getElem_cons_zero, List.setIfInBounds_toArray, List.set_cons_zero, List.set_cons_succ]
      first | (refine wpAnyR_take (i := 5) (v := undef) rfl ?_ ?_ ?_ ?_ ?_ (fun _ _ _ h => h) ?_ ?_ ?_; kernel_rfl; kernel_rfl; kernel_rfl; kernel_rfl; kernel_rfl; exact Or.inr ⟨by rfl, rfl⟩; exact hH) | (refine wpAnyR_take (i := 5) (v := ?_) rfl ?_ ?_ ?_ ?_ ?_ (fun _ _ _ h => h) ?_ ?_ ?_; rotate_left; kernel_rfl; kernel_rfl; kernel_rfl; kernel_rfl; kernel_rfl; (focus (refine Or.inl ⟨by rfl, ?_⟩; intro w' hSw; (try dsimp only at hSw); go_simp)); exact hH) | (refine wpAnyR_take (i := 5) (v := ?_) rfl ?_ ?_ ?_ ?_ ?_ (fun _ _ _ h => h) ?_ ?_ ?_; rotate_left; kernel_rfl; kernel_rfl; kernel_rfl; kernel_rfl; kernel_rfl; (focus (refine Or.inl ⟨by rfl, ?_⟩; intro w' hSw; (try dsimp only at hSw); go_simp; with_reducible rfl)); exact hH)
      try simp only [Act.put, List.getElem_toArray, List.getElem_cons_succ, List.getElem_cons_zero, List.setIfInBounds_toArray, List.set_cons_zero, List.set_cons_succ]
      first | (refine wpAnyR_take (i := 6) (v := undef) rfl ?_ ?_ ?_ ?_ ?_ (fun _ _ _ h => h) ?_ ?_ ?_; kernel_rfl; kernel_rfl; kernel_rfl; kernel_rfl; kernel_rfl; exact Or.inr ⟨by rfl, rfl⟩; exact hH) | (refine wpAnyR_take (i := 6) (v := ?_) rfl ?_ ?_ ?_ ?_ ?_ (fun _ _ _ h => h) ?_ ?_ ?_; rotate_left; kernel_rfl; kernel_rfl; kernel_rfl; kernel_rfl; kernel_rfl; (focus (refine Or.inl ⟨by rfl, ?_⟩; intro w' hSw; (try dsimp only at hSw); go_simp)); exact hH) | (refine wpAnyR_take (i := 6) (v := ?_) rfl ?_ ?_ ?_ ?_ ?_ (fun _ _ _ h => h) ?_ ?_ ?_; rotate_left; kernel_rfl; kernel_rfl; kernel_rfl; kernel_rfl; kernel_rfl; (focus (refine Or.inl ⟨by rfl, ?_⟩; intro w' hSw; (try dsimp only at hSw); go_simp; with_reducible rfl)); exact hH)
      try simp only [Act.put, List.getElem_toArray, List.getElem_cons_succ, List.getElem_cons_zero, List.setIfInBounds_toArray, List.set_cons_zero, List.set_cons_succ]
      refine wpAnyR_one (i := 7) (by kernel_rfl) rfl (by rfl) (fun K hK => ?_)
      refine ⟨fun _ _ => trivial, ?_⟩
      go_simp
      refine (CallsIn.inRound _ (callsIn_wide.2 (rb_less p.1.1 p.1.2 kk.1 kk.2 _))).mono ?_
      rintro e w1 ⟨rfl, hb1⟩
      rw [show klt (p.1.1, p.1.2) (kk.1, kk.2) = true from HKL.out]
      have HB1 : Hid (Below W2.heap.size W2 w1) := hH.2.trans hb1
      clear hb1
      go_simp
      refine hK _ _ (Or.inl ⟨⟨⟨(HX.out.2.2.2.2.1.next HB1.out).get 0 rfl, (HE.out.2.1.next HB1.out).get 0 rfl, (HE.out.2.1.next HB1.out).get 1 rfl, (HX.out.1.next HB1.out).get 0 rfl, (HX.out.1.next HB1.out).get 1 rfl⟩, HB1.out⟩, ?_⟩)
      clear hK K hH
      have hH := And.intro (And.intro ((HX.out.2.2.2.2.1.next HB1.out).get 0 rfl) (And.intro ((HE.out.2.1.next HB1.out).get 0 rfl) (And.intro ((HE.out.2.1.next HB1.out).get 1 rfl) (And.intro ((HX.out.1.next HB1.out).get 0 rfl) ((HX.out.1.next HB1.out).get 1 rfl))))) HB1.out
      try simp only [Act.put, List.getElem_toArray, List.getElem_cons_succ, List.getElem_cons_zero, List.setIfInBounds_toArray, List.set_cons_zero, List.set_cons_succ]
      first | (refine wpAnyR_take (i := 8) (v := undef) rfl ?_ ?_ ?_ ?_ ?_ (fun _ _ _ h => h) ?_ ?_ ?_; kernel_rfl; kernel_rfl; kernel_rfl; kernel_rfl; kernel_rfl; exact Or.inr ⟨by rfl, rfl⟩; exact hH) | (refine wpAnyR_take (i := 8) (v := ?_) rfl ?_ ?_ ?_ ?_ ?_ (fun _ _ _ h => h) ?_ ?_ ?_; rotate_left; kernel_rfl; kernel_rfl; kernel_rfl; kernel_rfl; kernel_rfl; (focus (refine Or.inl ⟨by rfl, ?_⟩; intro w' hSw; (try dsimp only at hSw); go_simp)); exact hH) | (refine wpAnyR_take (i := 8) (v := ?_) rfl ?_ ?_ ?_ ?_ ?_ (fun _ _ _ h => h) ?_ ?_ ?_; rotate_left; kernel_rfl; kernel_rfl; kernel_rfl; kernel_rfl; kernel_rfl; (focus (refine Or.inl ⟨by rfl, ?_⟩; intro w' hSw; (try dsimp only at hSw); go_simp; with_reducible rfl)); exact hH)
      try simp only [Act.put, List.getElem_toArray, List.getElem_cons_succ, List.getElem_cons_zero, List.setIfInBounds_toArray, List.set_cons_zero, List.set_cons_succ]
      first | (refine wpAnyR_take (i := 9) (v := undef) rfl ?_ ?_ ?_ ?_ ?_ (fun _ _ _ h => h) ?_ ?_ ?_; kernel_rfl; kernel_rfl; kernel_rfl; kernel_rfl; kernel_rfl; exact Or.inr ⟨by rfl, rfl⟩; exact hH) | (refine wpAnyR_take (i := 9) (v := ?_) rfl ?_ ?_ ?_ ?_ ?_ (fun _ _ _ h => h) ?_ ?_ ?_; rotate_left; kernel_rfl; kernel_rfl; kernel_rfl; kernel_rfl; kernel_rfl; (focus (refine Or.inl ⟨by rfl, ?_⟩; intro w' hSw; (try dsimp only at hSw); go_simp)); exact hH) | (refine wpAnyR_take (i := 9) (v := ?_) rfl ?_ ?_ ?_ ?_ ?_ (fun _ _ _ h => h) ?_ ?_ ?_; rotate_left; kernel_rfl; kernel_rfl; kernel_rfl; kernel_rfl; kernel_rfl; (focus (refine Or.inl ⟨by rfl, ?_⟩; intro w' hSw; (try dsimp only at hSw); go_simp; with_reducible rfl)); exact hH)
      try simp only [Act.put, List.getElem_toArray, List.getElem_cons_succ, List.getElem_cons_zero, List.setIfInBounds_toArray, List.set_cons_zero, List.set_cons_succ]
      refine wpAnyR_done (by kernel_rfl) ?_ _
      have xl := (HX.out.2.2.2.2.1.next HB1.out).get 0 rfl
      have fl := (HX.out.2.2.2.2.1.next HB1.out).frozen 0
      have HBX := HB1
      gi_wp2
      have hsz := HSZ.out
      have hTl := HT.out.1.blk.lt
      have FX : Fr (fun j => j = w.heap.size + 1) W2 (w1.setCell ⟨w.heap.size + 1, 0, none⟩ (.pointer (some ⟨W.heap.size, 0, none⟩))) := (Fr.of_new (S := fun j => j = w.heap.size + 1) HBX.out).setCell (p := ⟨w.heap.size + 1, 0, none⟩) (fun _ => rfl) _
      have h9 := HX.out.2.2.2.2.2.2.2.2
      refine ⟨((Holds.refl HX.out.2.2.2.2.2.2.1).next HBX.out).set (p := ⟨w.heap.size + 1, 0, none⟩) (show w.heap.size + 1 ≠ W0.heap.size by omega) (show w.heap.size + 1 ≠ W0.heap.size + 1 by omega) _, HX.out.2.1.fr FX (by show ¬ _ = _; omega) (fun x hx => by have := RepU.lt HT.out.1.rep x hx; show ¬ _ = _; omega), HX.out.2.2.1.fr FX (by show ¬ _ = _; omega), HX.out.2.2.2.1.fr FX (by show ¬ _ = _; omega), ?_, HX.out.2.2.2.2.2.1.trans (FX.below (by have := HX.out.2.2.2.2.2.1.size; omega) (fun j hj hn => by have hn : j = w.heap.size + 1 := hn; omega)), Nat.le_trans (by have := HX.out.2.2.2.2.2.2.1; omega) FX.size⟩
      have b10 := (HX.out.2.2.2.2.1.next HBX.out).put 0 (.pointer (some ⟨W.heap.size, 0, none⟩))
      have b11 := HX.out.1.fr FX (show ¬ _ = _ by omega)
      have h12 : w.heap.size + 3 ≤ W.heap.size := by omega
      first
      | exact ⟨_, b10, Or.inr ⟨_, W.heap.size, (kk, vv), rfl, rfl, HQ.out.1, b11, h12⟩⟩
      | (refine ⟨_, b10, Or.inr ?_⟩; exact ⟨_, rfl, W.heap.size, rfl, kk.1, kk.2, ⟨vv, HQ.out.1⟩, b11, h12⟩)
  case hdone =>
    rintro W ⟨h1, h2, h3, ⟨v, h4, h5⟩, h6, h7⟩ hD
    have HI := Lib.hid (And.intro h1 (And.intro h3 (And.intro h6 (And.intro h7 hD))))
    have x0 : W.cell? ⟨T, 2, none⟩ = some (.pointer (ptrO t)) := by rw [← ptrV_eq]; exact h1.blk.get 2 rfl
    obtain ⟨n, hwn⟩ := h1.well
    have HW := Lib.hid hwn
    clear h1 h2 h3 h4 h5 h6 h7 hD bR bL bT hB0 h0i hwn
    go_wp2_with fail
    with_reducible refine (ru_well T t n W HI.out.1.rep HW.out HI.out.1.tre HT.out.2).mono ?_
    rintro e w1 ⟨rfl, hb1⟩
    have b3 := HI.out.2.1.next hb1
    have f3 := b3.frozen 0
    have x3 := b3.get 0 rfl
    have HB1 := Lib.hid (And.intro b3 hb1)
    clear b3 hb1 x0
    go_wp2
    refine marks_ret (B := w.heap.size) [W0.heap.size] (by first | rfl | (rw [HSZ.out]; rfl)) (by intro D hd; simp only [List.mem_singleton] at hd; subst hd; exact ⟨by have := HSZ.out; omega, (Below.heap_setCell _ _ _ _ (show W0.heap.size ≠ w.heap.size by have := HSZ.out; omega)).trans ((HB1.out.2.block _ (Array.getElem?_eq_some_iff.1 HI.out.2.2.2.2).1).trans HI.out.2.2.2.2)⟩) (by simp) ?_
    intro w' hs
    have b4 := (HB1.out.1.put 0 (.bool true)).stays hs
    have b5 := below_stays ((below_next HI.out.2.2.1 HB1.out.2).setCell (p := ⟨w.heap.size, 0, none⟩) (Nat.le_refl _) (.bool true)) hs (Nat.le_refl _)
    have n2 : w'.cell? ⟨w.heap.size, 0, none⟩ = some (.bool true) := b4.get 0 rfl
    exact ⟨_, by simp [results, Try.results34, go_sem, n2]; try rfl, rfl, b5⟩

end Go.Proofs.Ytjlnbpomncglcaa
