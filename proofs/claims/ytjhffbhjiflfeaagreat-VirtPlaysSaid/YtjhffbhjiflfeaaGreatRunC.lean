/-
  Runs are copied.
-/
import Derived.Test.YtjhffbhjiflfeaaGreatVirtA
import Derived.Test.YtjhffbhjiflfeaaGreatVirtP
namespace Go.Proofs.YtjhffbhjiflfeaaGreat
set_option linter.unusedVariables false
set_option linter.unusedSimpArgs false
set_option maxRecDepth 100000
open Go.RowKit Go.Shelf

set_option maxHeartbeats 2000000 in
theorem bcopy_any (q : Nat) (F L R n x f r : Int) (w : World) (h : IsBent w q F L R n x f r) :
    Calls Tryz.prog 130 #[.pointer (some ⟨q, 0, none⟩)] w fun e w' => ∃ q', e = .returned (.pointer (some ⟨q', 0, none⟩)) ∧ w.heap.size ≤ q' ∧ IsBent w' q' F L R n x f r ∧ Below w.heap.size w w' := by
  have hb : Blk w q 120 #[.int .u64 F, .int .u64 L, .int .u64 R, .int .i64 n, .int .u64 x, .int .u64 F, .int .u64 f, .int .u64 R, .int .u64 r] := h
  have c0 := hb.get 0 rfl
  have c1 := hb.get 1 rfl
  have c2 := hb.get 2 rfl
  have c3 := hb.get 3 rfl
  have c4 := hb.get 4 rfl
  have c5 := hb.get 5 rfl
  have c6 := hb.get 6 rfl
  have c7 := hb.get 7 rfl
  have c8 := hb.get 8 rfl
  clear hb h
  go_enter Tryz.func130, Tryz.ntmps130
  go_wp2_with fail
  go_ret
  exact ⟨w.heap.size, by simp, Nat.le_refl _, Blk.new w _ _, by go_grown⟩

theorem ownK_slice {w : World} {B : Nat} {v : Value} {K : List (Int × Int)} (h : OwnK w B v K) : ∃ A n c, v = .slice A n c := by
  rcases h.2 with ⟨rfl, _⟩ | ⟨g, cap, cur, rfl, _⟩
  · exact ⟨_, _, _, rfl⟩
  · exact ⟨_, _, _, rfl⟩
theorem OwnK.less {w : World} {B B' : Nat} {v : Value} {K : List (Int × Int)} (h : OwnK w B v K) (hb : B' ≤ B) : OwnK w B' v K := by
  obtain ⟨h1, h2⟩ := h
  refine ⟨h1, ?_⟩
  rcases h2 with h2 | ⟨g, c, cur, a1, a2, a3⟩
  · exact Or.inl h2
  · exact Or.inr ⟨g, c, cur, a1, Nat.le_trans hb a2, a3⟩
set_option maxHeartbeats 2000000 in
theorem scopy_any (q : Nat) (F L R n x : Int) (kv : Value) (K : List (Int × Int)) (w : World) (h : IsSag w q F L R n x kv) (hk : OwnK w 0 kv K) (hn : K.length ≤ 1000000) :
    Calls Tryz.prog 153 #[.pointer (some ⟨q, 0, none⟩)] w fun e w' => ∃ q' kv', e = .returned (.pointer (some ⟨q', 0, none⟩)) ∧ w.heap.size ≤ q' ∧ IsSag w' q' F L R n x kv' ∧ OwnK w' 0 kv' K ∧ Below w.heap.size w w' := by
  have hb : Blk w q 123 #[.int .u64 F, .int .u64 L, .int .u64 R, .bool true, .int .i64 n, .int .u64 x, kv] := h
  obtain ⟨A, m, c, rfl⟩ := ownK_slice hk
  obtain ⟨w1, hw1⟩ : ∃ z, w.alloc (.cells #[.int .u64 F, .int .u64 L, .int .u64 R, .bool true, .int .i64 n, .int .u64 x, .slice A m c] 123) = z := ⟨_, rfl⟩
  have hb1 : Below w.heap.size w w1 := by rw [← hw1]; go_grown
  have bn : Blk w1 w.heap.size 123 #[.int .u64 F, .int .u64 L, .int .u64 R, .bool true, .int .i64 n, .int .u64 x, .slice A m c] := by rw [← hw1]; exact Blk.new w _ _
  have CL := Lib.hid (sclone_any (.slice A m c) K 0 w1 (hk.next hb1) hn)
  have c0 := hb.get 0 rfl
  have c1 := hb.get 1 rfl
  have c2 := hb.get 2 rfl
  have c3 := hb.get 3 rfl
  have c4 := hb.get 4 rfl
  have c5 := hb.get 5 rfl
  have c6 := hb.get 6 rfl
  have d6 := (hb.next hb1).get 6 rfl
  have HEQ := Lib.hid hw1
  have H1 := Lib.hid (And.intro bn hb1)
  clear hb h hk hn hw1 bn hb1
  go_enter Tryz.func153, Tryz.ntmps153
  go_upto_region 4 with (fail)
  rw [HEQ.out]
  clear c0 c1 c2 c3 c4 c5 c6
  go_wp2_with fail
  with_reducible refine (CL.out).mono ?_
  rintro e w2 ⟨v', rfl, hk2, hb2⟩
  obtain ⟨A', m', c', rfl⟩ := ownK_slice hk2
  have b2 := H1.out.1.next hb2
  have x6 := b2.get 6 rfl
  have y6 := b2.frozen 6
  have H2 := Lib.hid (And.intro b2 (And.intro hk2 hb2))
  clear b2 hk2 hb2
  go_wp2_with fail
  go_ret
  have hfr : Fr (fun k => k = w.heap.size) w2 (w2.setCell ⟨w.heap.size, 6, none⟩ (.slice A' m' c')) := Fr.setCell (S := fun k => k = w.heap.size) (p := ⟨w.heap.size, 6, none⟩) (Fr.refl _ w2) (fun _ => rfl) _
  refine ⟨w.heap.size, .slice A' m' c', by simp, Nat.le_refl _, H2.out.1.put 6 _, (H2.out.2.1.fr hfr fun k hk => ?_).less (Nat.zero_le _), (below_next H1.out.2 H2.out.2.2).trans (hfr.below (by have := H1.out.2.size; have := H2.out.2.2.size; omega) (fun k hk e => by omega))⟩
  obtain ⟨cs, hc⟩ := H2.out.2.1.has k hk
  exact fun e => Blk.ne_of_type hc H2.out.1 (by decide) e

set_option maxHeartbeats 2000000 in
theorem bends_own (q : Nat) (F L R n x f r : Int) (w : World) (h : IsBent w q F L R n x f r) :
    Calls Tryz.prog 129 #[.agg #[.pointer (some ⟨q, 0, none⟩)]] w fun e w' => ∃ q', e = .returned (.iface 94 (.agg #[.pointer (some ⟨q', 0, none⟩)])) ∧ w.heap.size ≤ q' ∧ IsBent w' q' F L R n x f r ∧ Below w.heap.size w w' := by
  obtain ⟨w1, hw1⟩ : ∃ z, w.alloc (.cells #[.pointer (some ⟨q, 0, none⟩)] 94) = z := ⟨_, rfl⟩
  have hb1 : Below w.heap.size w w1 := by rw [← hw1]; go_grown
  have CP := Lib.hid (bcopy_any q F L R n x f r w1 (h.next hb1))
  have HEQ := Lib.hid hw1
  have H1 := Lib.hid hb1
  clear h hw1 hb1
  go_enter Tryz.func129, Tryz.ntmps129
  go_wp2_with fail
  rw [HEQ.out]
  with_reducible refine (CP.out).mono ?_
  rintro e w2 ⟨q', rfl, h1, h2, h3⟩
  have H2 := Lib.hid (And.intro h1 (And.intro h2 h3))
  clear h1 h2 h3
  go_wp2_with fail
  go_ret
  exact ⟨q', by simp, Nat.le_trans H1.out.size H2.out.1, H2.out.2.1, below_next H1.out H2.out.2.2⟩
set_option maxHeartbeats 2000000 in
theorem sags_own (q : Nat) (F L R n x : Int) (kv : Value) (K : List (Int × Int)) (w : World) (h : IsSag w q F L R n x kv) (hk : OwnK w 0 kv K) (hn : K.length ≤ 1000000) :
    Calls Tryz.prog 152 #[.agg #[.pointer (some ⟨q, 0, none⟩)]] w fun e w' => ∃ q' kv', e = .returned (.iface 103 (.agg #[.pointer (some ⟨q', 0, none⟩)])) ∧ w.heap.size ≤ q' ∧ IsSag w' q' F L R n x kv' ∧ OwnK w' 0 kv' K ∧ Below w.heap.size w w' := by
  obtain ⟨w1, hw1⟩ : ∃ z, w.alloc (.cells #[.pointer (some ⟨q, 0, none⟩)] 103) = z := ⟨_, rfl⟩
  have hb1 : Below w.heap.size w w1 := by rw [← hw1]; go_grown
  have CP := Lib.hid (scopy_any q F L R n x kv K w1 (h.next hb1) (hk.next hb1) hn)
  have HEQ := Lib.hid hw1
  have H1 := Lib.hid hb1
  clear h hk hn hw1 hb1
  go_enter Tryz.func152, Tryz.ntmps152
  go_wp2_with fail
  rw [HEQ.out]
  with_reducible refine (CP.out).mono ?_
  rintro e w2 ⟨q', kv', rfl, h1, h2, h2', h3⟩
  have H2 := Lib.hid (And.intro h1 (And.intro h2 (And.intro h2' h3)))
  clear h1 h2 h2' h3
  go_wp2_with fail
  go_ret
  exact ⟨q', kv', by simp, Nat.le_trans H1.out.size H2.out.1, H2.out.2.1, H2.out.2.2.1, below_next H1.out H2.out.2.2.2⟩

set_option maxHeartbeats 4000000 in
theorem run_copy_bent (p q : Nat) (F L R n x f r : Int) (w : World) (h : RunAt w p q (RS.bent F L R n x f r)) :
    Calls Tryz.prog 47 #[.pointer (some ⟨p, 0, none⟩)] w fun e w' => ∃ p' q', e = .returned (.pointer (some ⟨p', 0, none⟩)) ∧ w.heap.size ≤ p' ∧ w.heap.size ≤ q' ∧ RunAt w' p' q' (RS.bent F L R n x f r) ∧ Below w.heap.size w w' := by
  obtain ⟨h1, h2⟩ := h
  have c3 := h1.get 3 rfl
  have H := Lib.hid (And.intro h1 h2)
  have OW := Lib.hid (fun w' (hb : Below w.heap.size w w') => bends_own q F L R n x f r w' (h2.next hb))
  clear h1 h2
  have MT : ∀ w, (method 307 94 (.agg #[.pointer (some ⟨q, 0, none⟩)]) "distributary/run.own").run Tryz.prog w = .ok (129, .agg #[.pointer (some ⟨q, 0, none⟩)]) w := fun w => by kernel_rfl
  go_enter Tryz.func47, Tryz.ntmps47
  go_upto_region 5 with (fail)
  have KP : Hid (∀ w', Below (w.heap.size) w w' → (w'.cell? ⟨p, 0, none⟩ = some (.int .u64 F) ∧ w'.cell? ⟨p, 1, none⟩ = some (.int .u64 L) ∧ w'.cell? ⟨p, 2, none⟩ = some (.int .u64 R) ∧ w'.cell? ⟨p, 3, none⟩ = some (.iface 94 (.agg #[.pointer (some ⟨q, 0, none⟩)]))) ∧ Below (w.heap.size) w w') := fun w' hb => ⟨⟨(H.out.1.next hb).get 0 rfl, (H.out.1.next hb).get 1 rfl, (H.out.1.next hb).get 2 rfl, (H.out.1.next hb).get 3 rfl⟩, hb⟩
  refine wp_region_noPanic ?_
  refine wp_region_held_drew (S := fun w' => (w'.cell? ⟨p, 0, none⟩ = some (.int .u64 F) ∧ w'.cell? ⟨p, 1, none⟩ = some (.int .u64 L) ∧ w'.cell? ⟨p, 2, none⟩ = some (.int .u64 R) ∧ w'.cell? ⟨p, 3, none⟩ = some (.iface 94 (.agg #[.pointer (some ⟨q, 0, none⟩)]))) ∧ Below (w.heap.size) w w') (by kernel_rfl) (KP.out _ (below_of_drew ((Below.refl w.heap.size w)))) (fun hH => ?_)
  have hbR := below_of_drew ((Below.refl w.heap.size w))
  first | (refine wpAnyH_take (i := 0) (v := undef) rfl ?_ ?_ ?_ (fun _ _ _ h => h) ?_ ?_ ?_; kernel_rfl; kernel_rfl; kernel_rfl; exact Or.inr ⟨by rfl, rfl⟩; exact hH) | (refine wpAnyH_take (i := 0) (v := ?_) rfl ?_ ?_ ?_ (fun _ _ _ h => h) ?_ ?_ ?_; rotate_left; kernel_rfl; kernel_rfl; kernel_rfl; (focus (refine Or.inl ⟨by rfl, ?_⟩; intro w' hSw; (try dsimp only at hSw); go_simp)); exact hH) | (refine wpAnyH_take (i := 0) (v := ?_) rfl ?_ ?_ ?_ (fun _ _ _ h => h) ?_ ?_ ?_; rotate_left; kernel_rfl; kernel_rfl; kernel_rfl; (focus (refine Or.inl ⟨by rfl, ?_⟩; intro w' hSw; (try dsimp only at hSw); go_simp; with_reducible rfl)); exact hH)
  try simp only [Act.put, List.getElem_toArray, List.getElem_cons_succ, List.getElem_cons_zero, List.setIfInBounds_toArray, List.set_cons_zero, List.set_cons_succ]
  first | (refine wpAnyH_take (i := 1) (v := undef) rfl ?_ ?_ ?_ (fun _ _ _ h => h) ?_ ?_ ?_; kernel_rfl; kernel_rfl; kernel_rfl; exact Or.inr ⟨by rfl, rfl⟩; exact hH) | (refine wpAnyH_take (i := 1) (v := ?_) rfl ?_ ?_ ?_ (fun _ _ _ h => h) ?_ ?_ ?_; rotate_left; kernel_rfl; kernel_rfl; kernel_rfl; (focus (refine Or.inl ⟨by rfl, ?_⟩; intro w' hSw; (try dsimp only at hSw); go_simp)); exact hH) | (refine wpAnyH_take (i := 1) (v := ?_) rfl ?_ ?_ ?_ (fun _ _ _ h => h) ?_ ?_ ?_; rotate_left; kernel_rfl; kernel_rfl; kernel_rfl; (focus (refine Or.inl ⟨by rfl, ?_⟩; intro w' hSw; (try dsimp only at hSw); go_simp; with_reducible rfl)); exact hH)
  try simp only [Act.put, List.getElem_toArray, List.getElem_cons_succ, List.getElem_cons_zero, List.setIfInBounds_toArray, List.set_cons_zero, List.set_cons_succ]
  first | (refine wpAnyH_take (i := 2) (v := undef) rfl ?_ ?_ ?_ (fun _ _ _ h => h) ?_ ?_ ?_; kernel_rfl; kernel_rfl; kernel_rfl; exact Or.inr ⟨by rfl, rfl⟩; exact hH) | (refine wpAnyH_take (i := 2) (v := ?_) rfl ?_ ?_ ?_ (fun _ _ _ h => h) ?_ ?_ ?_; rotate_left; kernel_rfl; kernel_rfl; kernel_rfl; (focus (refine Or.inl ⟨by rfl, ?_⟩; intro w' hSw; (try dsimp only at hSw); go_simp)); exact hH) | (refine wpAnyH_take (i := 2) (v := ?_) rfl ?_ ?_ ?_ (fun _ _ _ h => h) ?_ ?_ ?_; rotate_left; kernel_rfl; kernel_rfl; kernel_rfl; (focus (refine Or.inl ⟨by rfl, ?_⟩; intro w' hSw; (try dsimp only at hSw); go_simp; with_reducible rfl)); exact hH)
  try simp only [Act.put, List.getElem_toArray, List.getElem_cons_succ, List.getElem_cons_zero, List.setIfInBounds_toArray, List.set_cons_zero, List.set_cons_succ]
  first | (refine wpAnyH_take (i := 3) (v := undef) rfl ?_ ?_ ?_ (fun _ _ _ h => h) ?_ ?_ ?_; kernel_rfl; kernel_rfl; kernel_rfl; exact Or.inr ⟨by rfl, rfl⟩; exact hH) | (refine wpAnyH_take (i := 3) (v := ?_) rfl ?_ ?_ ?_ (fun _ _ _ h => h) ?_ ?_ ?_; rotate_left; kernel_rfl; kernel_rfl; kernel_rfl; (focus (refine Or.inl ⟨by rfl, ?_⟩; intro w' hSw; (try dsimp only at hSw); go_simp)); exact hH) | (refine wpAnyH_take (i := 3) (v := ?_) rfl ?_ ?_ ?_ (fun _ _ _ h => h) ?_ ?_ ?_; rotate_left; kernel_rfl; kernel_rfl; kernel_rfl; (focus (refine Or.inl ⟨by rfl, ?_⟩; intro w' hSw; (try dsimp only at hSw); go_simp; with_reducible rfl)); exact hH)
  try simp only [Act.put, List.getElem_toArray, List.getElem_cons_succ, List.getElem_cons_zero, List.setIfInBounds_toArray, List.set_cons_zero, List.set_cons_succ]
  first | (refine wpAnyH_take (i := 4) (v := undef) rfl ?_ ?_ ?_ (fun _ _ _ h => h) ?_ ?_ ?_; kernel_rfl; kernel_rfl; kernel_rfl; exact Or.inr ⟨by rfl, rfl⟩; exact hH) | (refine wpAnyH_take (i := 4) (v := ?_) rfl ?_ ?_ ?_ (fun _ _ _ h => h) ?_ ?_ ?_; rotate_left; kernel_rfl; kernel_rfl; kernel_rfl; (focus (refine Or.inl ⟨by rfl, ?_⟩; intro w' hSw; (try dsimp only at hSw); go_simp)); exact hH) | (refine wpAnyH_take (i := 4) (v := ?_) rfl ?_ ?_ ?_ (fun _ _ _ h => h) ?_ ?_ ?_; rotate_left; kernel_rfl; kernel_rfl; kernel_rfl; (focus (refine Or.inl ⟨by rfl, ?_⟩; intro w' hSw; (try dsimp only at hSw); go_simp; with_reducible rfl)); exact hH)
  try simp only [Act.put, List.getElem_toArray, List.getElem_cons_succ, List.getElem_cons_zero, List.setIfInBounds_toArray, List.set_cons_zero, List.set_cons_succ]
  first | (refine wpAnyH_take (i := 5) (v := undef) rfl ?_ ?_ ?_ (fun _ _ _ h => h) ?_ ?_ ?_; kernel_rfl; kernel_rfl; kernel_rfl; exact Or.inr ⟨by rfl, rfl⟩; exact hH) | (refine wpAnyH_take (i := 5) (v := ?_) rfl ?_ ?_ ?_ (fun _ _ _ h => h) ?_ ?_ ?_; rotate_left; kernel_rfl; kernel_rfl; kernel_rfl; (focus (refine Or.inl ⟨by rfl, ?_⟩; intro w' hSw; (try dsimp only at hSw); go_simp)); exact hH) | (refine wpAnyH_take (i := 5) (v := ?_) rfl ?_ ?_ ?_ (fun _ _ _ h => h) ?_ ?_ ?_; rotate_left; kernel_rfl; kernel_rfl; kernel_rfl; (focus (refine Or.inl ⟨by rfl, ?_⟩; intro w' hSw; (try dsimp only at hSw); go_simp; with_reducible rfl)); exact hH)
  try simp only [Act.put, List.getElem_toArray, List.getElem_cons_succ, List.getElem_cons_zero, List.setIfInBounds_toArray, List.set_cons_zero, List.set_cons_succ]
  first | (refine wpAnyH_take (i := 6) (v := undef) rfl ?_ ?_ ?_ (fun _ _ _ h => h) ?_ ?_ ?_; kernel_rfl; kernel_rfl; kernel_rfl; exact Or.inr ⟨by rfl, rfl⟩; exact hH) | (refine wpAnyH_take (i := 6) (v := ?_) rfl ?_ ?_ ?_ (fun _ _ _ h => h) ?_ ?_ ?_; rotate_left; kernel_rfl; kernel_rfl; kernel_rfl; (focus (refine Or.inl ⟨by rfl, ?_⟩; intro w' hSw; (try dsimp only at hSw); go_simp)); exact hH) | (refine wpAnyH_take (i := 6) (v := ?_) rfl ?_ ?_ ?_ (fun _ _ _ h => h) ?_ ?_ ?_; rotate_left; kernel_rfl; kernel_rfl; kernel_rfl; (focus (refine Or.inl ⟨by rfl, ?_⟩; intro w' hSw; (try dsimp only at hSw); go_simp; with_reducible rfl)); exact hH)
  try simp only [Act.put, List.getElem_toArray, List.getElem_cons_succ, List.getElem_cons_zero, List.setIfInBounds_toArray, List.set_cons_zero, List.set_cons_succ]
  first | (refine wpAnyH_take (i := 7) (v := undef) rfl ?_ ?_ ?_ (fun _ _ _ h => h) ?_ ?_ ?_; kernel_rfl; kernel_rfl; kernel_rfl; exact Or.inr ⟨by rfl, rfl⟩; exact hH) | (refine wpAnyH_take (i := 7) (v := ?_) rfl ?_ ?_ ?_ (fun _ _ _ h => h) ?_ ?_ ?_; rotate_left; kernel_rfl; kernel_rfl; kernel_rfl; (focus (refine Or.inl ⟨by rfl, ?_⟩; intro w' hSw; (try dsimp only at hSw); go_simp)); exact hH) | (refine wpAnyH_take (i := 7) (v := ?_) rfl ?_ ?_ ?_ (fun _ _ _ h => h) ?_ ?_ ?_; rotate_left; kernel_rfl; kernel_rfl; kernel_rfl; (focus (refine Or.inl ⟨by rfl, ?_⟩; intro w' hSw; (try dsimp only at hSw); go_simp; with_reducible rfl)); exact hH)
  try simp only [Act.put, List.getElem_toArray, List.getElem_cons_succ, List.getElem_cons_zero, List.setIfInBounds_toArray, List.set_cons_zero, List.set_cons_succ]
  refine wpAnyH_ready (rs := [8]) (by kernel_rfl) (by simp) ?_
  refine (AllReadyH.cons rfl (fun K hK => ?_) AllReadyH.nil)
  go_simp
  with_reducible refine (OW.out _ hH.2).mono ?_
  rintro e w1 ⟨qc, rfl, hq1, hq2, hbq1⟩
  have hz1 : Below w.heap.size w w1 := below_next hH.2 hbq1
  have HQ := Lib.hid (And.intro (Nat.le_trans hH.2.size hq1) hq2)
  clear hq1 hq2 hbq1
  refine hK.out _ _ (KP.out _ hz1) (fun hH1 => ?_)
  clear hK K hH
  have hH := hH1
  clear hH1
  try simp only [Act.put, List.getElem_toArray, List.getElem_cons_succ, List.getElem_cons_zero, List.setIfInBounds_toArray, List.set_cons_zero, List.set_cons_succ]
  first | (refine wpAnyH_take (i := 9) (v := undef) rfl ?_ ?_ ?_ (fun _ _ _ h => h) ?_ ?_ ?_; kernel_rfl; kernel_rfl; kernel_rfl; exact Or.inr ⟨by rfl, rfl⟩; exact hH) | (refine wpAnyH_take (i := 9) (v := ?_) rfl ?_ ?_ ?_ (fun _ _ _ h => h) ?_ ?_ ?_; rotate_left; kernel_rfl; kernel_rfl; kernel_rfl; (focus (refine Or.inl ⟨by rfl, ?_⟩; intro w' hSw; (try dsimp only at hSw); go_simp)); exact hH) | (refine wpAnyH_take (i := 9) (v := ?_) rfl ?_ ?_ ?_ (fun _ _ _ h => h) ?_ ?_ ?_; rotate_left; kernel_rfl; kernel_rfl; kernel_rfl; (focus (refine Or.inl ⟨by rfl, ?_⟩; intro w' hSw; (try dsimp only at hSw); go_simp; with_reducible rfl)); exact hH)
  try simp only [Act.put, List.getElem_toArray, List.getElem_cons_succ, List.getElem_cons_zero, List.setIfInBounds_toArray, List.set_cons_zero, List.set_cons_succ]
  refine wpAnyH_ready (rs := [10]) (by kernel_rfl) (by simp) ?_
  refine (AllReadyH.cons rfl (fun K hK => ?_) AllReadyH.nil)
  go_simp
  have RBb2 : Blk (w1.alloc (.cells #[.int .u64 F, .int .u64 L, .int .u64 R, .iface 94 (.agg #[.pointer (some ⟨qc, 0, none⟩)])] 98)) (w1.heap.size) 98 #[.int .u64 F, .int .u64 L, .int .u64 R, .iface 94 (.agg #[.pointer (some ⟨qc, 0, none⟩)])] := Blk.new_at (by simp)
  have QGRB : w.heap.size ≤ w1.heap.size := Nat.le_trans (Below.size (hz1)) (Nat.le_of_eq (by simp))
  have hb2 := Below.alloc (hz1) (Below.size (hz1)) (.cells #[.int .u64 F, .int .u64 L, .int .u64 R, .iface 94 (.agg #[.pointer (some ⟨qc, 0, none⟩)])] 98)
  refine hK.out _ _ (KP.out _ hb2) (fun hH2 => ?_)
  clear hK K hH
  have hH := hH2
  clear hH2
  try simp only [Act.put, List.getElem_toArray, List.getElem_cons_succ, List.getElem_cons_zero, List.setIfInBounds_toArray, List.set_cons_zero, List.set_cons_succ]
  first | (refine wpAnyH_take (i := 11) (v := undef) rfl ?_ ?_ ?_ (fun _ _ _ h => h) ?_ ?_ ?_; kernel_rfl; kernel_rfl; kernel_rfl; exact Or.inr ⟨by rfl, rfl⟩; exact hH) | (refine wpAnyH_take (i := 11) (v := ?_) rfl ?_ ?_ ?_ (fun _ _ _ h => h) ?_ ?_ ?_; rotate_left; kernel_rfl; kernel_rfl; kernel_rfl; (focus (refine Or.inl ⟨by rfl, ?_⟩; intro w' hSw; (try dsimp only at hSw); go_simp)); exact hH) | (refine wpAnyH_take (i := 11) (v := ?_) rfl ?_ ?_ ?_ (fun _ _ _ h => h) ?_ ?_ ?_; rotate_left; kernel_rfl; kernel_rfl; kernel_rfl; (focus (refine Or.inl ⟨by rfl, ?_⟩; intro w' hSw; (try dsimp only at hSw); go_simp; with_reducible rfl)); exact hH)
  try simp only [Act.put, List.getElem_toArray, List.getElem_cons_succ, List.getElem_cons_zero, List.setIfInBounds_toArray, List.set_cons_zero, List.set_cons_succ]
  refine wpAnyH_done (by kernel_rfl) ?_ _
  refine NoPanic.normal ?_
  clear hH
  have RBb := RBb2
  have hbG := hb2
  try clear hH
  go_wp2_with fail
  go_ret
  exact ⟨_, qc, by simp, QGRB, HQ.out.1, ⟨RBb, HQ.out.2.next ((Below.refl _ _).alloc (Nat.le_refl _) _)⟩, hbG⟩

set_option maxHeartbeats 4000000 in
theorem run_copy_sag (p q : Nat) (F L R n x : Int) (K : List (Int × Int)) (w : World) (hn : K.length ≤ 1000000) (h : RunAt w p q (RS.sag F L R n x K)) :
    Calls Tryz.prog 47 #[.pointer (some ⟨p, 0, none⟩)] w fun e w' => ∃ p' q', e = .returned (.pointer (some ⟨p', 0, none⟩)) ∧ w.heap.size ≤ p' ∧ w.heap.size ≤ q' ∧ RunAt w' p' q' (RS.sag F L R n x K) ∧ Below w.heap.size w w' := by
  obtain ⟨kv, h1, h2, h3⟩ := h
  have c3 := h1.get 3 rfl
  have H := Lib.hid (And.intro h1 h2)
  have OW := Lib.hid (fun w' (hb : Below w.heap.size w w') => sags_own q F L R n x kv K w' (h2.next hb) (h3.next hb) hn)
  clear h1 h2 h3
  have MT : ∀ w, (method 307 103 (.agg #[.pointer (some ⟨q, 0, none⟩)]) "distributary/run.own").run Tryz.prog w = .ok (152, .agg #[.pointer (some ⟨q, 0, none⟩)]) w := fun w => by kernel_rfl
  go_enter Tryz.func47, Tryz.ntmps47
  go_upto_region 5 with (fail)
  have KP : Hid (∀ w', Below (w.heap.size) w w' → (w'.cell? ⟨p, 0, none⟩ = some (.int .u64 F) ∧ w'.cell? ⟨p, 1, none⟩ = some (.int .u64 L) ∧ w'.cell? ⟨p, 2, none⟩ = some (.int .u64 R) ∧ w'.cell? ⟨p, 3, none⟩ = some (.iface 103 (.agg #[.pointer (some ⟨q, 0, none⟩)]))) ∧ Below (w.heap.size) w w') := fun w' hb => ⟨⟨(H.out.1.next hb).get 0 rfl, (H.out.1.next hb).get 1 rfl, (H.out.1.next hb).get 2 rfl, (H.out.1.next hb).get 3 rfl⟩, hb⟩
  refine wp_region_noPanic ?_
  refine wp_region_held_drew (S := fun w' => (w'.cell? ⟨p, 0, none⟩ = some (.int .u64 F) ∧ w'.cell? ⟨p, 1, none⟩ = some (.int .u64 L) ∧ w'.cell? ⟨p, 2, none⟩ = some (.int .u64 R) ∧ w'.cell? ⟨p, 3, none⟩ = some (.iface 103 (.agg #[.pointer (some ⟨q, 0, none⟩)]))) ∧ Below (w.heap.size) w w') (by kernel_rfl) (KP.out _ (below_of_drew ((Below.refl w.heap.size w)))) (fun hH => ?_)
  have hbR := below_of_drew ((Below.refl w.heap.size w))
  first | (refine wpAnyH_take (i := 0) (v := undef) rfl ?_ ?_ ?_ (fun _ _ _ h => h) ?_ ?_ ?_; kernel_rfl; kernel_rfl; kernel_rfl; exact Or.inr ⟨by rfl, rfl⟩; exact hH) | (refine wpAnyH_take (i := 0) (v := ?_) rfl ?_ ?_ ?_ (fun _ _ _ h => h) ?_ ?_ ?_; rotate_left; kernel_rfl; kernel_rfl; kernel_rfl; (focus (refine Or.inl ⟨by rfl, ?_⟩; intro w' hSw; (try dsimp only at hSw); go_simp)); exact hH) | (refine wpAnyH_take (i := 0) (v := ?_) rfl ?_ ?_ ?_ (fun _ _ _ h => h) ?_ ?_ ?_; rotate_left; kernel_rfl; kernel_rfl; kernel_rfl; (focus (refine Or.inl ⟨by rfl, ?_⟩; intro w' hSw; (try dsimp only at hSw); go_simp; with_reducible rfl)); exact hH)
  try simp only [Act.put, List.getElem_toArray, List.getElem_cons_succ, List.getElem_cons_zero, List.setIfInBounds_toArray, List.set_cons_zero, List.set_cons_succ]
  first | (refine wpAnyH_take (i := 1) (v := undef) rfl ?_ ?_ ?_ (fun _ _ _ h => h) ?_ ?_ ?_; kernel_rfl; kernel_rfl; kernel_rfl; exact Or.inr ⟨by rfl, rfl⟩; exact hH) | (refine wpAnyH_take (i := 1) (v := ?_) rfl ?_ ?_ ?_ (fun _ _ _ h => h) ?_ ?_ ?_; rotate_left; kernel_rfl; kernel_rfl; kernel_rfl; (focus (refine Or.inl ⟨by rfl, ?_⟩; intro w' hSw; (try dsimp only at hSw); go_simp)); exact hH) | (refine wpAnyH_take (i := 1) (v := ?_) rfl ?_ ?_ ?_ (fun _ _ _ h => h) ?_ ?_ ?_; rotate_left; kernel_rfl; kernel_rfl; kernel_rfl; (focus (refine Or.inl ⟨by rfl, ?_⟩; intro w' hSw; (try dsimp only at hSw); go_simp; with_reducible rfl)); exact hH)
  try simp only [Act.put, List.getElem_toArray, List.getElem_cons_succ, List.getElem_cons_zero, List.setIfInBounds_toArray, List.set_cons_zero, List.set_cons_succ]
  first | (refine wpAnyH_take (i := 2) (v := undef) rfl ?_ ?_ ?_ (fun _ _ _ h => h) ?_ ?_ ?_; kernel_rfl; kernel_rfl; kernel_rfl; exact Or.inr ⟨by rfl, rfl⟩; exact hH) | (refine wpAnyH_take (i := 2) (v := ?_) rfl ?_ ?_ ?_ (fun _ _ _ h => h) ?_ ?_ ?_; rotate_left; kernel_rfl; kernel_rfl; kernel_rfl; (focus (refine Or.inl ⟨by rfl, ?_⟩; intro w' hSw; (try dsimp only at hSw); go_simp)); exact hH) | (refine wpAnyH_take (i := 2) (v := ?_) rfl ?_ ?_ ?_ (fun _ _ _ h => h) ?_ ?_ ?_; rotate_left; kernel_rfl; kernel_rfl; kernel_rfl; (focus (refine Or.inl ⟨by rfl, ?_⟩; intro w' hSw; (try dsimp only at hSw); go_simp; with_reducible rfl)); exact hH)
  try simp only [Act.put, List.getElem_toArray, List.getElem_cons_succ, List.getElem_cons_zero, List.setIfInBounds_toArray, List.set_cons_zero, List.set_cons_succ]
  first | (refine wpAnyH_take (i := 3) (v := undef) rfl ?_ ?_ ?_ (fun _ _ _ h => h) ?_ ?_ ?_; kernel_rfl; kernel_rfl; kernel_rfl; exact Or.inr ⟨by rfl, rfl⟩; exact hH) | (refine wpAnyH_take (i := 3) (v := ?_) rfl ?_ ?_ ?_ (fun _ _ _ h => h) ?_ ?_ ?_; rotate_left; kernel_rfl; kernel_rfl; kernel_rfl; (focus (refine Or.inl ⟨by rfl, ?_⟩; intro w' hSw; (try dsimp only at hSw); go_simp)); exact hH) | (refine wpAnyH_take (i := 3) (v := ?_) rfl ?_ ?_ ?_ (fun _ _ _ h => h) ?_ ?_ ?_; rotate_left; kernel_rfl; kernel_rfl; kernel_rfl; (focus (refine Or.inl ⟨by rfl, ?_⟩; intro w' hSw; (try dsimp only at hSw); go_simp; with_reducible rfl)); exact hH)
  try simp only [Act.put, List.getElem_toArray, List.getElem_cons_succ, List.getElem_cons_zero, List.setIfInBounds_toArray, List.set_cons_zero, List.set_cons_succ]
  first | (refine wpAnyH_take (i := 4) (v := undef) rfl ?_ ?_ ?_ (fun _ _ _ h => h) ?_ ?_ ?_; kernel_rfl; kernel_rfl; kernel_rfl; exact Or.inr ⟨by rfl, rfl⟩; exact hH) | (refine wpAnyH_take (i := 4) (v := ?_) rfl ?_ ?_ ?_ (fun _ _ _ h => h) ?_ ?_ ?_; rotate_left; kernel_rfl; kernel_rfl; kernel_rfl; (focus (refine Or.inl ⟨by rfl, ?_⟩; intro w' hSw; (try dsimp only at hSw); go_simp)); exact hH) | (refine wpAnyH_take (i := 4) (v := ?_) rfl ?_ ?_ ?_ (fun _ _ _ h => h) ?_ ?_ ?_; rotate_left; kernel_rfl; kernel_rfl; kernel_rfl; (focus (refine Or.inl ⟨by rfl, ?_⟩; intro w' hSw; (try dsimp only at hSw); go_simp; with_reducible rfl)); exact hH)
  try simp only [Act.put, List.getElem_toArray, List.getElem_cons_succ, List.getElem_cons_zero, List.setIfInBounds_toArray, List.set_cons_zero, List.set_cons_succ]
  first | (refine wpAnyH_take (i := 5) (v := undef) rfl ?_ ?_ ?_ (fun _ _ _ h => h) ?_ ?_ ?_; kernel_rfl; kernel_rfl; kernel_rfl; exact Or.inr ⟨by rfl, rfl⟩; exact hH) | (refine wpAnyH_take (i := 5) (v := ?_) rfl ?_ ?_ ?_ (fun _ _ _ h => h) ?_ ?_ ?_; rotate_left; kernel_rfl; kernel_rfl; kernel_rfl; (focus (refine Or.inl ⟨by rfl, ?_⟩; intro w' hSw; (try dsimp only at hSw); go_simp)); exact hH) | (refine wpAnyH_take (i := 5) (v := ?_) rfl ?_ ?_ ?_ (fun _ _ _ h => h) ?_ ?_ ?_; rotate_left; kernel_rfl; kernel_rfl; kernel_rfl; (focus (refine Or.inl ⟨by rfl, ?_⟩; intro w' hSw; (try dsimp only at hSw); go_simp; with_reducible rfl)); exact hH)
  try simp only [Act.put, List.getElem_toArray, List.getElem_cons_succ, List.getElem_cons_zero, List.setIfInBounds_toArray, List.set_cons_zero, List.set_cons_succ]
  first | (refine wpAnyH_take (i := 6) (v := undef) rfl ?_ ?_ ?_ (fun _ _ _ h => h) ?_ ?_ ?_; kernel_rfl; kernel_rfl; kernel_rfl; exact Or.inr ⟨by rfl, rfl⟩; exact hH) | (refine wpAnyH_take (i := 6) (v := ?_) rfl ?_ ?_ ?_ (fun _ _ _ h => h) ?_ ?_ ?_; rotate_left; kernel_rfl; kernel_rfl; kernel_rfl; (focus (refine Or.inl ⟨by rfl, ?_⟩; intro w' hSw; (try dsimp only at hSw); go_simp)); exact hH) | (refine wpAnyH_take (i := 6) (v := ?_) rfl ?_ ?_ ?_ (fun _ _ _ h => h) ?_ ?_ ?_; rotate_left; kernel_rfl; kernel_rfl; kernel_rfl; (focus (refine Or.inl ⟨by rfl, ?_⟩; intro w' hSw; (try dsimp only at hSw); go_simp; with_reducible rfl)); exact hH)
  try simp only [Act.put, List.getElem_toArray, List.getElem_cons_succ, List.getElem_cons_zero, List.setIfInBounds_toArray, List.set_cons_zero, List.set_cons_succ]
  first | (refine wpAnyH_take (i := 7) (v := undef) rfl ?_ ?_ ?_ (fun _ _ _ h => h) ?_ ?_ ?_; kernel_rfl; kernel_rfl; kernel_rfl; exact Or.inr ⟨by rfl, rfl⟩; exact hH) | (refine wpAnyH_take (i := 7) (v := ?_) rfl ?_ ?_ ?_ (fun _ _ _ h => h) ?_ ?_ ?_; rotate_left; kernel_rfl; kernel_rfl; kernel_rfl; (focus (refine Or.inl ⟨by rfl, ?_⟩; intro w' hSw; (try dsimp only at hSw); go_simp)); exact hH) | (refine wpAnyH_take (i := 7) (v := ?_) rfl ?_ ?_ ?_ (fun _ _ _ h => h) ?_ ?_ ?_; rotate_left; kernel_rfl; kernel_rfl; kernel_rfl; (focus (refine Or.inl ⟨by rfl, ?_⟩; intro w' hSw; (try dsimp only at hSw); go_simp; with_reducible rfl)); exact hH)
  try simp only [Act.put, List.getElem_toArray, List.getElem_cons_succ, List.getElem_cons_zero, List.setIfInBounds_toArray, List.set_cons_zero, List.set_cons_succ]
  refine wpAnyH_ready (rs := [8]) (by kernel_rfl) (by simp) ?_
  refine (AllReadyH.cons rfl (fun K hK => ?_) AllReadyH.nil)
  go_simp
  with_reducible refine (OW.out _ hH.2).mono ?_
  rintro e w1 ⟨qc, kc, rfl, hq1, hq2, hq3, hbq1⟩
  have hz1 : Below w.heap.size w w1 := below_next hH.2 hbq1
  have HQ := Lib.hid (And.intro (Nat.le_trans hH.2.size hq1) (And.intro hq2 hq3))
  clear hq1 hq2 hq3 hbq1
  refine hK.out _ _ (KP.out _ hz1) (fun hH1 => ?_)
  clear hK K hH
  have hH := hH1
  clear hH1
  try simp only [Act.put, List.getElem_toArray, List.getElem_cons_succ, List.getElem_cons_zero, List.setIfInBounds_toArray, List.set_cons_zero, List.set_cons_succ]
  first | (refine wpAnyH_take (i := 9) (v := undef) rfl ?_ ?_ ?_ (fun _ _ _ h => h) ?_ ?_ ?_; kernel_rfl; kernel_rfl; kernel_rfl; exact Or.inr ⟨by rfl, rfl⟩; exact hH) | (refine wpAnyH_take (i := 9) (v := ?_) rfl ?_ ?_ ?_ (fun _ _ _ h => h) ?_ ?_ ?_; rotate_left; kernel_rfl; kernel_rfl; kernel_rfl; (focus (refine Or.inl ⟨by rfl, ?_⟩; intro w' hSw; (try dsimp only at hSw); go_simp)); exact hH) | (refine wpAnyH_take (i := 9) (v := ?_) rfl ?_ ?_ ?_ (fun _ _ _ h => h) ?_ ?_ ?_; rotate_left; kernel_rfl; kernel_rfl; kernel_rfl; (focus (refine Or.inl ⟨by rfl, ?_⟩; intro w' hSw; (try dsimp only at hSw); go_simp; with_reducible rfl)); exact hH)
  try simp only [Act.put, List.getElem_toArray, List.getElem_cons_succ, List.getElem_cons_zero, List.setIfInBounds_toArray, List.set_cons_zero, List.set_cons_succ]
  refine wpAnyH_ready (rs := [10]) (by kernel_rfl) (by simp) ?_
  refine (AllReadyH.cons rfl (fun K hK => ?_) AllReadyH.nil)
  go_simp
  have RBb2 : Blk (w1.alloc (.cells #[.int .u64 F, .int .u64 L, .int .u64 R, .iface 103 (.agg #[.pointer (some ⟨qc, 0, none⟩)])] 98)) (w1.heap.size) 98 #[.int .u64 F, .int .u64 L, .int .u64 R, .iface 103 (.agg #[.pointer (some ⟨qc, 0, none⟩)])] := Blk.new_at (by simp)
  have QGRB : w.heap.size ≤ w1.heap.size := Nat.le_trans (Below.size (hz1)) (Nat.le_of_eq (by simp))
  have hb2 := Below.alloc (hz1) (Below.size (hz1)) (.cells #[.int .u64 F, .int .u64 L, .int .u64 R, .iface 103 (.agg #[.pointer (some ⟨qc, 0, none⟩)])] 98)
  refine hK.out _ _ (KP.out _ hb2) (fun hH2 => ?_)
  clear hK K hH
  have hH := hH2
  clear hH2
  try simp only [Act.put, List.getElem_toArray, List.getElem_cons_succ, List.getElem_cons_zero, List.setIfInBounds_toArray, List.set_cons_zero, List.set_cons_succ]
  first | (refine wpAnyH_take (i := 11) (v := undef) rfl ?_ ?_ ?_ (fun _ _ _ h => h) ?_ ?_ ?_; kernel_rfl; kernel_rfl; kernel_rfl; exact Or.inr ⟨by rfl, rfl⟩; exact hH) | (refine wpAnyH_take (i := 11) (v := ?_) rfl ?_ ?_ ?_ (fun _ _ _ h => h) ?_ ?_ ?_; rotate_left; kernel_rfl; kernel_rfl; kernel_rfl; (focus (refine Or.inl ⟨by rfl, ?_⟩; intro w' hSw; (try dsimp only at hSw); go_simp)); exact hH) | (refine wpAnyH_take (i := 11) (v := ?_) rfl ?_ ?_ ?_ (fun _ _ _ h => h) ?_ ?_ ?_; rotate_left; kernel_rfl; kernel_rfl; kernel_rfl; (focus (refine Or.inl ⟨by rfl, ?_⟩; intro w' hSw; (try dsimp only at hSw); go_simp; with_reducible rfl)); exact hH)
  try simp only [Act.put, List.getElem_toArray, List.getElem_cons_succ, List.getElem_cons_zero, List.setIfInBounds_toArray, List.set_cons_zero, List.set_cons_succ]
  refine wpAnyH_done (by kernel_rfl) ?_ _
  refine NoPanic.normal ?_
  clear hH
  have RBb := RBb2
  have hbG := hb2
  try clear hH
  go_wp2_with fail
  go_ret
  exact ⟨_, qc, by simp, QGRB, HQ.out.1, ⟨kc, RBb, HQ.out.2.1.next ((Below.refl _ _).alloc (Nat.le_refl _) _), HQ.out.2.2.next ((Below.refl _ _).alloc (Nat.le_refl _) _)⟩, hbG⟩

/-- A run of its own. -/
theorem run_copy (p q : Nat) (s : RS) (w : World) (ok : s.ok) (hn : s.many ≤ 1000000) (h : RunAt w p q s) :
    Calls Tryz.prog 47 #[.pointer (some ⟨p, 0, none⟩)] w fun e w' => ∃ p' q', e = .returned (.pointer (some ⟨p', 0, none⟩)) ∧ w.heap.size ≤ p' ∧ w.heap.size ≤ q' ∧ RunAt w' p' q' s ∧ Below w.heap.size w w' := by
  cases s with
  | bent F L R n x f r => exact run_copy_bent p q F L R n x f r w h
  | sag F L R n x K => exact run_copy_sag p q F L R n x K w (by have h1 : (K.length : Int) ≤ n := ok.len; have h2 : n ≤ 1000000 := hn; omega) h

end Go.Proofs.YtjhffbhjiflfeaaGreat

/-!
  A family is copied.
-/
namespace Go.Proofs.YtjhffbhjiflfeaaGreat
set_option linter.unusedVariables false
set_option linter.unusedSimpArgs false
set_option maxRecDepth 100000
open Go.RowKit Go.Shelf

/-- Where no block of cells is turned. -/
theorem MemAt.still {w w' : World} {x : Mem} {S : Nat → Prop} (h : MemAt w x) (hf : Fr S w w') (hS : ∀ k t cs, S k → Blk w k t cs → False) : MemAt w' x := by
  refine ⟨h.1.fr hf (fun e => hS _ _ _ e h.1), h.2.fr hf ?_ ?_ ?_⟩
  · obtain ⟨c, hc⟩ := h.2.parts.1
    exact fun e => hS _ _ _ e hc
  · rcases h.2.parts.2 with ⟨c, hc⟩ | ⟨c, hc⟩
    · exact fun e => hS _ _ _ e hc
    · exact fun e => hS _ _ _ e hc
  · intro b cs hc e
    exact hS _ _ _ e hc
/-- Where another member's block is turned. -/
theorem MemAt.other {w w' : World} {x : Mem} {g : Nat} {cs : Array Value} (h : MemAt w x) (hf : Fr (fun k => k = g) w w') (hg : Blk w g 70 cs) (hne : x.m ≠ g) : MemAt w' x := by
  refine ⟨h.1.fr hf hne, h.2.fr hf ?_ ?_ ?_⟩
  · obtain ⟨c, hc⟩ := h.2.parts.1
    exact Blk.ne_of_type hc hg (by decide)
  · rcases h.2.parts.2 with ⟨c, hc⟩ | ⟨c, hc⟩
    · exact Blk.ne_of_type hc hg (by decide)
    · exact Blk.ne_of_type hc hg (by decide)
  · intro b c hc
    exact Blk.ne_of_type hc hg (by decide)
/-- What a member is, wherever it lies. -/
def coreM (x : Mem) : Int × Int × Int × Bool × RS := (x.id, x.T, x.v, x.up, x.s)
theorem core_id {A B : List Mem} (h : (A.map coreM).Perm (B.map coreM)) : (A.map (·.id)).Perm (B.map (·.id)) := by
  have := h.map (fun c => c.1)
  rw [List.map_map, List.map_map] at this
  exact this
theorem MpR.notCells {w : World} {r b : Nat} {M L : IMap} (h : MpR w r b M L) : ∀ t cs, ¬ Blk w r t cs := by
  intro t cs hb
  obtain ⟨es, cl, since, seen, c0, h1, h2, h3, h4, h5⟩ := h
  unfold Blk at hb
  rw [h4] at hb
  cases hb
theorem MpR.neq {w : World} {r b b' : Nat} {M L M' : IMap} (h : MpR w r b M L) (h' : MpAt w b' M') : r ≠ b' := by
  obtain ⟨es, cl, since, seen, c0, h1, h2, h3, h4, h5⟩ := h
  obtain ⟨es', cl', k1, k2⟩ := h'
  rintro rfl
  rw [h4] at k1
  cases k1
theorem absent_id {D : List Mem} {Ms : List Mem} {x : Mem} {L1 L2 : List Mem} (hp : (D.map coreM ++ (L1 ++ x :: L2).map coreM).Perm (Ms.map coreM)) (hn : (Ms.map (·.id)).Nodup) : fnd x.id D = none := by
  have h1 : ((D ++ (L1 ++ x :: L2)).map (·.id)).Nodup := (core_id (by rw [List.map_append]; exact hp)).nodup_iff.2 hn
  rw [List.map_append, List.nodup_append] at h1
  refine (fun {Ms : List Mem} => ?_ : ∀ {Ms : List Mem}, (∀ y ∈ Ms, y.id ≠ x.id) → fnd x.id Ms = none) (fun y hy => h1.2.2 _ (List.mem_map.2 ⟨y, hy, rfl⟩) _ (List.mem_map.2 ⟨x, List.mem_append_right _ (List.mem_cons_self ..), rfl⟩))
  induction Ms with
  | nil => intro _; rfl
  | cons z Ms ih =>
    intro h
    unfold fnd
    rw [if_neg (h z (List.mem_cons_self ..))]
    exact ih fun y hy => h y (List.mem_cons_of_mem _ hy)

set_option maxHeartbeats 8000000 in
theorem vcopy_any (f mb : Nat) (mark : Int) (Ms : List Mem) (w : World) (h : FamAt w f mb mark Ms) (ok : ∀ x ∈ Ms, x.s.ok ∧ x.s.many ≤ 1000000) :
    Calls Tryz.prog 19 #[.pointer (some ⟨f, 0, none⟩)] w fun e w' => ∃ out Ms', e = .returned (.pointer (some ⟨out, 0, none⟩)) ∧ w.heap.size ≤ out ∧ (∀ x ∈ Ms', w.heap.size ≤ x.m ∧ w.heap.size ≤ x.q) ∧ (Ms'.map coreM).Perm (Ms.map coreM) ∧ (∃ m2, w.heap.size ≤ m2 ∧ FamAt w' out m2 mark Ms') ∧ Below w.heap.size w w' := by
  have ME := map_some_eq mb
  have mk : ∀ w, (Instr.makeMap 41 none).run Tryz.prog w = .ok (.map (some w.heap.size)) (w.alloc (.map #[] 0)) := fun w => by simp [Instr.makeMap, Result.andThen]
  have c0 := h.blk.get 0 rfl
  have c0a := ((h.blk.alloc (.map #[] 0)).alloc (.cells #[.map (some w.heap.size), .int .u64 mark] 43)).get 0 rfl
  have c1a := (h.blk.alloc (.map #[] 0)).get 1 rfl
  have hba : Below w.heap.size w ((w.alloc (.map #[] 0)).alloc (.cells #[.map (some w.heap.size), .int .u64 mark] 43)) := by go_grown
  have bo := Blk.new (w.alloc (.map #[] 0)) 43 #[.map (some w.heap.size), .int .u64 mark]
  have m0 := (MpAt.new w).next ((Below.refl _ _).alloc (Nat.le_refl _) (.cells #[.map (some w.heap.size), .int .u64 mark] 43))
  have hsz : ((w.alloc (.map #[] 0)).alloc (.cells #[.map (some w.heap.size), .int .u64 mark] 43)).heap.size = w.heap.size + 2 := by simp
  simp only [World.size_alloc] at bo
  obtain ⟨W0, hW0⟩ : ∃ z, (w.alloc (.map #[] 0)).alloc (.cells #[.map (some w.heap.size), .int .u64 mark] 43) = z := ⟨_, rfl⟩
  rw [hW0] at hba bo m0 hsz c0a
  obtain ⟨W1, RG, hR, hB1, hsz1⟩ := ((h.next hba).map).range (P := Tryz.prog) fam_desc
  have HEQ := Lib.hid hW0
  have H1 := Lib.hid (And.intro hR (And.intro (bo.next hB1) (And.intro (m0.next hB1) (And.intro (below_next hba hB1) (show W1.heap.size = w.heap.size + 3 by omega)))))
  have H := Lib.hid (And.intro h ok)
  rw [hsz] at RG
  have HSZ := Lib.hid hsz
  clear h ok hba bo m0 hW0 hR hB1 hsz1 hsz
  go_enter Tryz.func19, Tryz.ntmps19
  go_upto_region 6 with (fail)
  rw [HEQ.out]
  go_wp2_with fail
  clear c0 c0a c1a ME mk RG
  go_loopg [] Ms.length (fun gk wr => ∃ D L, MpR wr (w.heap.size + 2) mb (famM Ms) (famM L) ∧ Blk wr (w.heap.size + 1) 43 #[.map (some w.heap.size), .int .u64 mark] ∧ MpAt wr w.heap.size (famM D) ∧ (∀ x ∈ D, MemAt wr x ∧ w.heap.size + 3 ≤ x.m ∧ w.heap.size + 3 ≤ x.q) ∧ (D.map (·.m)).Nodup ∧ (D.map (·.q)).Nodup ∧
    (D.map coreM ++ L.map coreM).Perm (Ms.map coreM) ∧ (∀ y ∈ L, y ∈ Ms) ∧ L.length ≤ gk ∧ Below w.heap.size w wr ∧ w.heap.size + 3 ≤ wr.heap.size)
  case atStart => exact ⟨[], Ms, by have := H1.out.1; rw [HSZ.out] at this; exact this, H1.out.2.1, H1.out.2.2.1, (fun x hx => by cases hx), List.nodup_nil, List.nodup_nil, List.Perm.refl _, fun y hy => hy, Nat.le_refl _, H1.out.2.2.2.1, by have := H1.out.2.2.2.2; omega⟩
  case round =>
    obtain ⟨D, L, hR, hbo, hm2, hmem, hnm, hnq, hp, hin, hl, hbw, hsz⟩ := hrel
    obtain ⟨wo, rfl⟩ : ∃ x : World, x = wr := ⟨_, rfl⟩
    rcases hR.step (P := Tryz.prog) 0 with ⟨e0, NX⟩ | ⟨A, k, v, B, w2, eL, NX, hR2, hE, hF⟩
    · have eL0 : L = [] := List.map_eq_nil_iff.1 e0
      subst eL0
      have HX := Lib.hid (And.intro hbo (And.intro hm2 (And.intro hmem (And.intro hnm (And.intro hnq (And.intro hp (And.intro hbw hsz)))))))
      clear hR hbo hm2 hmem hnm hnq hp hin hl hbw hsz e0
      go_wp2_with fail
      go_ret
      obtain ⟨hbo, hm2, hmem, hnm, hnq, hp, hbw, hsz⟩ := HX.out
      rw [List.map_nil, List.append_nil] at hp
      exact ⟨w.heap.size + 1, D, by simp, by omega, fun x hx => by have := hmem x hx; omega, hp, ⟨w.heap.size, Nat.le_refl _, hbo, hm2, fun x hx => (hmem x hx).1, hnm, hnq⟩, hbw⟩
    · obtain ⟨L1, x, L2, rfl, rfl, rfl, rfl, rfl⟩ := famM_cut eL
      have hxin : x ∈ Ms := hin x (List.mem_append_right _ (List.mem_cons_self ..))
      have hb2 : Below w.heap.size w w2 := hbw.trans (hF.below (by omega) (fun k hk e => by have e : k = w.heap.size + 2 := e; omega))
      have hfam := H.out.1.next hb2
      have hxm := hfam.mem x hxin
      have EN := hE.entry (P := Tryz.prog)
      have hab := absent_id hp H.out.1.ids
      unfold mptr at NX EN
      have hz2 : w.heap.size + 3 ≤ w2.heap.size := Nat.le_trans hsz hF.size
      have bo2 := hbo.fr hF (show ¬ w.heap.size + 1 = w.heap.size + 2 by omega)
      have mm2 := hm2.fr hF (show ¬ w.heap.size = w.heap.size + 2 by omega)
      have mem2 : ∀ y ∈ D, MemAt w2 y ∧ w.heap.size + 3 ≤ y.m ∧ w.heap.size + 3 ≤ y.q := fun y hy => ⟨(hmem y hy).1.still hF (fun k t cs e hb => by have e : k = w.heap.size + 2 := e; subst e; exact hR.notCells t cs hb), (hmem y hy).2⟩
      have e0 := hxm.1.get 0 rfl
      have e1 := hxm.1.get 1 rfl
      have e2 := hxm.1.get 2 rfl
      have e3 := hxm.1.get 3 rfl
      have HX := Lib.hid (And.intro hR2 (And.intro bo2 (And.intro mm2 (And.intro mem2 (And.intro hnm (And.intro hnq (And.intro hp (And.intro hin (And.intro hl (And.intro hb2 (And.intro hz2 (And.intro hxm (And.intro hab hxin)))))))))))))
      clear hR hbo hm2 hmem hnm hnq hp hin hl hbw hsz eL hR2 hE hF hxin hb2 hfam hxm hab hz2 bo2 mm2 mem2
      go_upto_region 10 with (fail)
      have hba : Below w2.heap.size w2 (w2.alloc (.cells #[.int .u64 x.T, .int .u64 x.v, .pointer (some ⟨x.p, 0, none⟩), .bool x.up] 70)) := by go_grown
      have bN := Blk.new w2 70 #[.int .u64 x.T, .int .u64 x.v, .pointer (some ⟨x.p, 0, none⟩), .bool x.up]
      obtain ⟨w3, hw3⟩ : ∃ z, w2.alloc (.cells #[.int .u64 x.T, .int .u64 x.v, .pointer (some ⟨x.p, 0, none⟩), .bool x.up] 70) = z := ⟨_, rfl⟩
      rw [hw3] at hba bN ⊢
      obtain ⟨nm, hnm⟩ : ∃ z, w2.heap.size = z := ⟨_, rfl⟩
      rw [hnm] at bN ⊢
      have RC := Lib.hid (run_copy x.p x.q x.s w3 (H.out.2 x HX.out.2.2.2.2.2.2.2.2.2.2.2.2.2).1 (H.out.2 x HX.out.2.2.2.2.2.2.2.2.2.2.2.2.2).2 (HX.out.2.2.2.2.2.2.2.2.2.2.2.1.next hba).2)
      have e2 := (HX.out.2.2.2.2.2.2.2.2.2.2.2.1.next hba).1.get 2 rfl
      have H3 := Lib.hid (And.intro hba (And.intro bN hnm))
      clear hba bN hw3 hnm e0 e1 e3 NX EN
      go_wp2_with fail
      with_reducible refine (RC.out).mono ?_
      rintro e w4 ⟨p', q', rfl, hp', hq', hrun, hb4⟩
      have b4 := H3.out.2.1.next hb4
      have x2 := b4.get 2 rfl
      have y2 := b4.frozen 2
      obtain ⟨w5, hw5⟩ : ∃ z, w4.setCell ⟨nm, 2, none⟩ (.pointer (some ⟨p', 0, none⟩)) = z := ⟨_, rfl⟩
      have f45 : Fr (fun k => k = nm) w4 w5 := by rw [← hw5]; exact Fr.setCell (S := fun k => k = nm) (p := ⟨nm, 2, none⟩) (Fr.refl _ w4) (fun _ => rfl) _
      have b5 : Blk w5 nm 70 #[.int .u64 x.T, .int .u64 x.v, .pointer (some ⟨p', 0, none⟩), .bool x.up] := by rw [← hw5]; exact b4.put 2 _
      have hb24 : Below w2.heap.size w2 w4 := below_next H3.out.1 hb4
      have hn2 : nm = w2.heap.size := H3.out.2.2.symm
      have hz2 := HX.out.2.2.2.2.2.2.2.2.2.2.1
      have bo5 := (HX.out.2.1.next hb24).fr f45 (show ¬ w.heap.size + 1 = nm by omega)
      have mm5 := (HX.out.2.2.1.next hb24).fr f45 (show ¬ w.heap.size = nm by omega)
      obtain ⟨w6, SR, mm6, f56⟩ := mm5.store (P := Tryz.prog) fam_desc fint_desc x.id (.pointer (some ⟨nm, 0, none⟩))
      have co := bo5.get 0 rfl
      have H5 := Lib.hid (And.intro b4 (And.intro b5 (And.intro f45 (And.intro hb24 (And.intro hn2 (And.intro bo5 (And.intro mm5 (And.intro mm6 (And.intro f56 (And.intro hp' (And.intro hq' (And.intro hrun hb4))))))))))))
      have HW5 := Lib.hid hw5
      clear b4 f45 b5 hb24 hn2 hz2 bo5 mm5 mm6 f56 hp' hq' hrun hb4 hw5 e2
      go_upto_region 11 with (fail)
      rw [HW5.out]
      clear x2 y2
      go_wp2_with fail
      obtain ⟨hR2, bo2, mm2, mem2, hnm, hnq, hp, hin, hl, hb2, hz2, hxm, hab, hxin⟩ := HX.out
      obtain ⟨b4, b5, f45, hb24, hn2, bo5, mm5, mm6, f56, hp', hq', hrun, hb4⟩ := H5.out
      have hml := H.out.1.map.lt
      have h3s := H3.out.1.size
      have hR6 := ((hR2.next hb24).fr f45 (show ¬ w.heap.size + 2 = nm by omega) (show ¬ mb = nm by omega)).fr f56 (show ¬ w.heap.size + 2 = w.heap.size by omega) (show ¬ mb = w.heap.size by omega)
      rw [← famM_app] at hR6
      have bo6 := bo5.fr f56 (show ¬ w.heap.size + 1 = w.heap.size by omega)
      rw [mput_none (by rw [mget_fam, hab]; rfl)] at mm6
      have still6 : ∀ y, MemAt w5 y → MemAt w6 y := fun y hy => hy.still f56 (fun k t cs e hb => by have e : k = w.heap.size := e; subst e; exact mm5.ne hb rfl)
      have low : ∀ y ∈ D, y.m < w2.heap.size ∧ y.q < w2.heap.size := fun y hy => by
        have := (mem2 y hy).1
        refine ⟨this.1.lt, ?_⟩
        rcases this.2.parts.2 with ⟨c, hc⟩ | ⟨c, hc⟩
        · exact hc.lt
        · exact hc.lt
      have memD : ∀ y ∈ D, MemAt w6 y := fun y hy => still6 y (((mem2 y hy).1.next hb24).other f45 b4 (by have := (low y hy).1; omega))
      have hx5 : MemAt w5 { x with m := nm, p := p', q := q' } := by
        refine ⟨b5, hrun.fr f45 ?_ ?_ ?_⟩
        · obtain ⟨c, hc⟩ := hrun.parts.1
          exact Blk.ne_of_type hc b4 (by decide)
        · rcases hrun.parts.2 with ⟨c, hc⟩ | ⟨c, hc⟩
          · exact Blk.ne_of_type hc b4 (by decide)
          · exact Blk.ne_of_type hc b4 (by decide)
        · intro b c hc
          exact Blk.ne_of_type hc b4 (by decide)
      have hx6 := still6 _ hx5
      have hbw : Below w.heap.size w w6 := ((hb2.trans (hb24.mono (by omega))).trans (f45.below (by have := hb24.size; omega) (fun k hk e => by have e : k = nm := e; omega))).trans (f56.below (by have := hb24.size; have := f45.size; omega) (fun k hk e => by have e : k = w.heap.size := e; omega))
      have hlen : (L1 ++ L2).length < gk := by simp only [List.length_append, List.length_cons] at hl ⊢; omega
      have HZ := Lib.hid (And.intro hR6 (And.intro bo6 (And.intro mm6 (And.intro memD (And.intro hx6 (And.intro hbw low))))))
      clear hR6 bo6 mm6 memD hx6 hbw low still6 hx5 mm2 bo2 hR2 mem2 bo5 mm5
      go_roundg (L1 ++ L2).length
      case rel =>
        refine ⟨D ++ [{ x with m := nm, p := p', q := q' }], L1 ++ L2, HZ.out.1, HZ.out.2.1, ?_, fun y hy => ?_, ?_, ?_, ?_, fun y hy => ?_, Nat.le_refl _, HZ.out.2.2.2.2.2.1, ?_⟩
        · rw [famM_app]; exact HZ.out.2.2.1
        · rcases List.mem_append.1 hy with hy | hy
          · exact ⟨HZ.out.2.2.2.1 y hy, (HX.out.2.2.2.1 y hy).2⟩
          · rw [List.mem_singleton.1 hy]
            exact ⟨HZ.out.2.2.2.2.1, by show w.heap.size + 3 ≤ nm; omega, by show w.heap.size + 3 ≤ q'; omega⟩
        · rw [List.map_append, List.nodup_append]
          refine ⟨hnm, by simp, fun a ha b hb => ?_⟩
          obtain ⟨y, hy, rfl⟩ := List.mem_map.1 ha
          have := (HZ.out.2.2.2.2.2.2 y hy).1
          simp only [List.map_cons, List.map_nil, List.mem_singleton] at hb
          rw [hb]
          show y.m ≠ nm
          omega
        · rw [List.map_append, List.nodup_append]
          refine ⟨hnq, by simp, fun a ha b hb => ?_⟩
          obtain ⟨y, hy, rfl⟩ := List.mem_map.1 ha
          have := (HZ.out.2.2.2.2.2.2 y hy).2
          simp only [List.map_cons, List.map_nil, List.mem_singleton] at hb
          rw [hb]
          show y.q ≠ q'
          omega
        · refine List.Perm.trans ?_ hp
          rw [List.map_append, List.append_assoc, List.map_append, List.map_append, List.map_cons]
          exact List.Perm.append_left _ (List.perm_middle (a := coreM x) (l₁ := L1.map coreM) (l₂ := L2.map coreM)).symm
        · exact hin y ((List.mem_append.1 hy).elim (List.mem_append_left _) (fun h => List.mem_append_right _ (List.mem_cons_of_mem _ h)))
        · have := hb24.size; have := f45.size; have := f56.size; omega
      case measure => exact hlen

end Go.Proofs.YtjhffbhjiflfeaaGreat
