/-
  The walk of the law WideRows: the products of rows are the same in whatever order, and part by part.
-/
import Derived.Test.YtifndlkhhhedlaaProg
import Derived.Test.YtifndlkhhhedlaaDot
import Derived.Test.YtifndlkhhhedlaaRowsPlain
namespace Go.Proofs.Ytifndlkhhhedlaa
set_option linter.unusedVariables false
set_option linter.unusedSimpArgs false
set_option maxRecDepth 100000
open Go.RowKit Go.Shelf

/-- A slice of words that can be read. -/
def RowAt (w : World) (A : Option Addr) (n : Nat) (F : Nat → Int) : Prop :=
  (0 < n → ∃ b off, A = some ⟨b, off, none⟩ ∧ b < w.heap.size) ∧ (∀ b off, A = some ⟨b, off, none⟩ → ∀ i, i < n → w.cell? ⟨b, off + i, none⟩ = some (.int .u64 (F i))) ∧ ∀ i, i < n → Word (F i)
theorem RowAt.next {w W : World} {A : Option Addr} {n : Nat} {F : Nat → Int} (h : RowAt w A n F) (hW : Below w.heap.size w W) : RowAt W A n F := by
  obtain ⟨hA, hF, hw⟩ := h
  refine ⟨fun h => ?_, fun b off e i hi => ?_, hw⟩
  · obtain ⟨b, off, e, k⟩ := hA h
    exact ⟨b, off, e, Nat.lt_of_lt_of_le k hW.size⟩
  · obtain ⟨b', off', e', k⟩ := hA (by omega)
    rw [e] at e'; injection e' with e'; injection e' with e1 e2; subst e1
    exact (hW.cell (p := ⟨b, off + i, none⟩) k).trans (hF b off e i hi)
theorem RowAt.less {w : World} {A : Option Addr} {n k : Nat} {F : Nat → Int} (h : RowAt w A n F) (hk : k ≤ n) : RowAt w A k F :=
  ⟨fun h0 => h.1 (by omega), fun b off e i hi => h.2.1 b off e i (by omega), fun i hi => h.2.2 i (by omega)⟩
theorem dot_row (A : Option Addr) (n cA : Nat) (F : Nat → Int) (B : Option Addr) (m cB : Nat) (G : Nat → Int) (S h l e : Int) (w : World) (hA : RowAt w A n F) (hB : RowAt w B m G) (hn : n ≤ 1000) (hm : m ≤ 1000) (hS : dsum F G (min n m) = S) (e1 : dotH S = h) (e2 : dotL S = l) (e3 : dotE S = e) :
    Calls Try.prog 5 #[.slice A n cA, .slice B m cB] w fun q w' => q = .returned (.tuple #[.agg #[.int .u64 h, .int .u64 l], .int .i64 e]) ∧ Below w.heap.size w w' := by
  rw [← e1, ← e2, ← e3, ← hS]
  exact dot_any A n cA F B m cB G w hA.2.2 hB.2.2 (by omega) (by omega) hA.1 hB.1 hA.2.1 hB.2.1

theorem addr_add (b off k : Nat) : (⟨b, off, none⟩ : Addr).add k = ⟨b, off + k, none⟩ := by
  unfold Addr.add
  split
  · rename_i h
    subst h
    rfl
  · rfl
theorem RowAt.shift {w : World} {A : Option Addr} {n k j c : Nat} {F : Nat → Int} (h : RowAt w A n F) (hk : k ≤ j) (hj : j ≤ n) (hc : j ≤ c) :
    RowAt w (if c = k then A else Option.map (fun x => x.add k) A) (j - k) fun i => F (k + i) := by
  split
  · rw [show j - k = 0 by omega]
    exact ⟨fun h => absurd h (by omega), fun _ _ _ i hi => absurd hi (by omega), fun i hi => absurd hi (by omega)⟩
  · refine ⟨fun h0 => ?_, fun b off e i hi => ?_, fun i hi => h.2.2 _ (by omega)⟩
    · obtain ⟨b, off, e, hb⟩ := h.1 (by omega)
      exact ⟨b, off + k, by rw [e, Option.map_some, addr_add], hb⟩
    · obtain ⟨b', off', e', hb⟩ := h.1 (by omega)
      rw [e', Option.map_some, addr_add] at e
      have e2 : (⟨b', off' + k, none⟩ : Addr) = ⟨b, off, none⟩ := Option.some.inj e
      injection e2 with e1 e2
      subst e1 e2
      have := h.2.1 b' off' e' (k + i) (by omega)
      rw [← Nat.add_assoc] at this
      exact this

set_option maxHeartbeats 16000000 in
theorem wideRows_walk (w : World) (A : Option Addr) (n cA : Nat) (F : Nat → Int) (fF : ∀ i, i < n → (Lit.int .u64 (F i)).wf = true) (hlA : n ≤ cA) (hmA : cA ≤ maxLen) (hA : 0 < n → ∃ b off, A = some ⟨b, off, none⟩ ∧ b < w.heap.size) (hF : ∀ b off, A = some ⟨b, off, none⟩ → ∀ i, i < n → w.cell? ⟨b, off + (i * 1 + 0), none⟩ = some (.int .u64 (F i)))
    (B : Option Addr) (m cB : Nat) (G : Nat → Int) (fG : ∀ i, i < m → (Lit.int .u64 (G i)).wf = true) (hlB : m ≤ cB) (hmB : cB ≤ maxLen) (hB : 0 < m → ∃ b off, B = some ⟨b, off, none⟩ ∧ b < w.heap.size) (hG : ∀ b off, B = some ⟨b, off, none⟩ → ∀ i, i < m → w.cell? ⟨b, off + (i * 1 + 0), none⟩ = some (.int .u64 (G i)))
    (at' : Int) (hat : (Lit.int .i64 at').wf = true) :
    Calls Try.prog 4 #[.slice A n cA, .slice B m cB, .int .i64 at'] w fun e w' => e = .returned (.bool true) ∧ Below w.heap.size w w' := by
  have RA : RowAt w A n F := ⟨hA, fun b off h i hi => by simpa using hF b off h i hi, fun i hi => word_of_wf (fF i hi)⟩
  have RB : RowAt w B m G := ⟨hB, fun b off h i hi => by simpa using hG b off h i hi, fun i hi => word_of_wf (fG i hi)⟩
  have ha := int_of_wf hat
  unfold maxLen at hmA hmB
  clear fF fG hA hB hF hG hat
  have AW := Lib.hid (fun w => awake01 w)
  by_cases hn : 20 < n
  · have n1 : (20 : Int) < (n : Int) := by omega
    clear hn RA RB
    go_enter Try.func4, Try.ntmps4
    go_wp2_with fail
    with_reducible refine (AW.out _).mono ?_
    rintro e w1 ⟨rfl, hb1⟩
    go_wp2_with fail
    all_goals go_ret
    all_goals exact ⟨rfl, hb1⟩
  have n1 : decide ((20 : Int) < (n : Int)) = false := decide_eq_false (by omega)
  by_cases hm : 20 < m
  · have m1 : (20 : Int) < (m : Int) := by omega
    clear hn hm RA RB
    go_enter Try.func4, Try.ntmps4
    go_wp2_with fail
    with_reducible refine (AW.out _).mono ?_
    rintro e w1 ⟨rfl, hb1⟩
    go_wp2_with fail
    all_goals go_ret
    all_goals exact ⟨rfl, hb1⟩
  have m1 : decide ((20 : Int) < (m : Int)) = false := decide_eq_false (by omega)
  obtain ⟨z, hz⟩ : ∃ z : Nat, min n m = z := ⟨_, rfl⟩
  have z0 : z ≤ n := by omega
  have z1 : z ≤ m := by omega
  have z2 : z ≤ 20 := by omega
  have hzi : min (n : Int) (m : Int) = (z : Int) := by omega
  obtain ⟨k, hkw, hkz⟩ : ∃ k : Nat, wrap64 ((IntKind.u64.wrap at').tmod ((z : Int) + 1)) = (k : Int) ∧ k ≤ z := by
    have h0 : 0 ≤ IntKind.u64.wrap at' := by rw [IntKind.wrap_u64]; exact Int.emod_nonneg _ (by omega)
    have a := Int.emod_nonneg (IntKind.u64.wrap at') (show (z : Int) + 1 ≠ 0 by omega)
    have b := Int.emod_lt_of_pos (IntKind.u64.wrap at') (show 0 < (z : Int) + 1 by omega)
    refine ⟨(IntKind.u64.wrap at' % ((z : Int) + 1)).toNat, ?_, by omega⟩
    rw [Int.tmod_eq_emod_of_nonneg h0]; unfold wrap64; omega
  have HK := Lib.hid hkw
  clear hkw
  have HRA := Lib.hid RA
  have HRB := Lib.hid RB
  obtain ⟨i0, hi0, hz0, hz1, hz2⟩ := info_parts (show (Try.prog.info? 22).map (fun i => (i.zero, i.size, i.bytes)) = some (some (.int .u64 0), 1, 8) by kernel_rfl)
  have HIF := Lib.hid (And.intro hi0 (And.intro hz0 (And.intro hz1 hz2)))
  have HZ := Lib.hid hz
  obtain ⟨FA, hFA⟩ : ∃ f : Nat → Int, ∀ i, F (z - 1 - i) = f i := ⟨_, fun _ => rfl⟩
  obtain ⟨FB, hFB⟩ : ∃ f : Nat → Int, ∀ i, G (z - 1 - i) = f i := ⟨_, fun _ => rfl⟩
  have EFA := Lib.hid hFA
  have EFB := Lib.hid hFB
  clear hFA hFB
  have hn20 : n ≤ 20 := by omega
  have hm20 : m ≤ 20 := by omega
  clear RA RB hn hm hi0 hz0 hz1 hz2 hz
  go_enter Try.func4, Try.ntmps4
  go_wp2_with fail
  with_reducible refine (AW.out _).mono ?_
  rintro e w1 ⟨rfl, hb1⟩
  have T1 : Hid (TwoAt w w1 0 0 (.slice none 0 0) (.slice none 0 0) FA FB) := ⟨World.ownsRow_nil _ _ _ _, World.ownsRow_nil _ _ _ _, apart_nil _, hb1⟩
  clear hb1
  go_upto_region 3 with (fail)
  go_cut [7] (fun nv wc => nv = .int .i64 z ∧ wc = w1)
  case first =>
    go_wp2_with fail
    all_goals go_meet
    all_goals exact ⟨by first | (congr 1; done) | (congr 1; omega), rfl⟩
  case rest =>
  obtain ⟨rfl, hw0⟩ := hcut
  replace hw0 := hw0.symm
  subst hw0
  clear hzi
  go_wp2_with fail
  go_loopg [8, 9, 10] z (fun gk v1 v2 ix wr => ∃ (j : Nat) (q : Int), j + gk = z ∧ ix = .int .i64 q ∧ q = (z : Int) - 1 - j ∧ TwoAt w wr j j v1 v2 FA FB)
  case atStart => exact ⟨0, _, by omega, rfl, by omega, T1.out⟩
  case round =>
    obtain ⟨j, q, hj, rfl, hq, hT⟩ := hrel
    have HT := Lib.hid hT
    have HQ := Lib.hid hq
    clear hT T1
    by_cases hlt : j < z
    · obtain ⟨gm, rfl⟩ : ∃ gm, gk = gm + 1 := ⟨gk - 1, by omega⟩
      obtain ⟨p, rfl⟩ : ∃ p : Nat, q = (p : Int) := ⟨z - 1 - j, by omega⟩
      have hp : z - 1 - j = p := by omega
      have hpz : p < z := by omega
      obtain ⟨bA, oA, rfl, hbA⟩ := HRA.out.1 (by omega)
      obtain ⟨bB, oB, rfl, hbB⟩ := HRB.out.1 (by omega)
      have cA := HRA.out.2.1 _ _ rfl p (by omega)
      have cB := HRB.out.2.1 _ _ rfl p (by omega)
      obtain ⟨x, ex⟩ : ∃ z, F p = z := ⟨_, rfl⟩
      obtain ⟨y, ey⟩ : ∃ z, G p = z := ⟨_, rfl⟩
      rw [ex] at cA
      rw [ey] at cB
      have EXA : Hid (FA j = x) := by unfold Hid; rw [← EFA.out, hp]; exact ex
      have EXB : Hid (FB j = y) := by unfold Hid; rw [← EFB.out, hp]; exact ey
      have p0 : (0 : Int) ≤ (p : Int) := by omega
      have p1 : (p : Int) < (n : Int) := by omega
      have p2 : (p : Int) < (m : Int) := by omega
      have hbw := HT.out.2.2.2
      have hj1 : j + 1 ≤ maxLen := by unfold maxLen; omega
      have wle : w.heap.size ≤ wr.heap.size := hbw.size
      have oA' : ∀ k, Value.ownBlock u8 = some k → k < wr.heap.size := fun k hk => (HT.out.1.lt k hk).2
      have oB' : ∀ k, Value.ownBlock u9 = some k → k < wr.heap.size := fun k hk => (HT.out.2.1.lt k hk).2
      have oA2 : ∀ k, Value.ownBlock u8 = some k → w.heap.size ≤ k := fun k hk => (HT.out.1.lt k hk).1
      have oB2 : ∀ k, Value.ownBlock u9 = some k → w.heap.size ≤ k := fun k hk => (HT.out.2.1.lt k hk).1
      have OA := Lib.hid (And.intro oA' oA2)
      have OB := Lib.hid (And.intro oB' oB2)
      have KR : Hid (∀ w', Below (w.heap.size) wr w' → (w'.cell? ⟨bA, oA + p, none⟩ = some (.int .u64 x) ∧ w'.cell? ⟨bB, oB + p, none⟩ = some (.int .u64 y)) ∧ Below (w.heap.size) wr w') := fun w' hb => ⟨⟨((hb.cell (p := ⟨bA, oA + p, none⟩) hbA).trans ((hbw.cell (p := ⟨bA, oA + p, none⟩) hbA).trans cA)), ((hb.cell (p := ⟨bB, oB + p, none⟩) hbB).trans ((hbw.cell (p := ⟨bB, oB + p, none⟩) hbB).trans cB))⟩, hb⟩
      clear cA cB ex ey hp hbw oA' oB' oA2 oB2 hlt hq
      go_wp2_with fail
      go_upto_region 10 with (fail)
      refine wp_region_noPanic ?_
      refine wp_region_held_drew (S := fun w' => (w'.cell? ⟨bA, oA + p, none⟩ = some (.int .u64 x) ∧ w'.cell? ⟨bB, oB + p, none⟩ = some (.int .u64 y)) ∧ Below (w.heap.size) wr w') (by kernel_rfl) (KR.out _ (below_of_drew ((Below.refl w.heap.size wr)))) (fun hH => ?_)
      have hbR := below_of_drew ((Below.refl w.heap.size wr))
      have HTh0 := (HT.out).next (below_of_drew (Below.refl (wr).heap.size (wr)))
      first | (refine wpAnyH_take (i := 0) (v := undef) rfl ?_ ?_ ?_ (fun _ _ _ h => h) ?_ ?_ ?_; kernel_rfl; kernel_rfl; kernel_rfl; exact Or.inr ⟨by rfl, rfl⟩; exact hH) | (refine wpAnyH_take (i := 0) (v := ?_) rfl ?_ ?_ ?_ (fun _ _ _ h => h) ?_ ?_ ?_; rotate_left; kernel_rfl; kernel_rfl; kernel_rfl; (focus (refine Or.inl ⟨by rfl, ?_⟩; intro w' hSw; (try dsimp only at hSw); go_simp)); exact hH) | (refine wpAnyH_take (i := 0) (v := ?_) rfl ?_ ?_ ?_ (fun _ _ _ h => h) ?_ ?_ ?_; rotate_left; kernel_rfl; kernel_rfl; kernel_rfl; (focus (refine Or.inl ⟨by rfl, ?_⟩; intro w' hSw; (try dsimp only at hSw); go_simp; with_reducible rfl)); exact hH)
      try simp only [Act.put, List.getElem_toArray, List.getElem_cons_succ, List.getElem_cons_zero, List.setIfInBounds_toArray, List.set_cons_zero, List.set_cons_succ]
      first | (refine wpAnyH_take (i := 1) (v := undef) rfl ?_ ?_ ?_ (fun _ _ _ h => h) ?_ ?_ ?_; kernel_rfl; kernel_rfl; kernel_rfl; exact Or.inr ⟨by rfl, rfl⟩; exact hH) | (refine wpAnyH_take (i := 1) (v := ?_) rfl ?_ ?_ ?_ (fun _ _ _ h => h) ?_ ?_ ?_; rotate_left; kernel_rfl; kernel_rfl; kernel_rfl; (focus (refine Or.inl ⟨by rfl, ?_⟩; intro w' hSw; (try dsimp only at hSw); go_simp)); exact hH) | (refine wpAnyH_take (i := 1) (v := ?_) rfl ?_ ?_ ?_ (fun _ _ _ h => h) ?_ ?_ ?_; rotate_left; kernel_rfl; kernel_rfl; kernel_rfl; (focus (refine Or.inl ⟨by rfl, ?_⟩; intro w' hSw; (try dsimp only at hSw); go_simp; with_reducible rfl)); exact hH)
      try simp only [Act.put, List.getElem_toArray, List.getElem_cons_succ, List.getElem_cons_zero, List.setIfInBounds_toArray, List.set_cons_zero, List.set_cons_succ]
      first | (refine wpAnyH_take (i := 2) (v := undef) rfl ?_ ?_ ?_ (fun _ _ _ h => h) ?_ ?_ ?_; kernel_rfl; kernel_rfl; kernel_rfl; exact Or.inr ⟨by rfl, rfl⟩; exact hH) | (refine wpAnyH_take (i := 2) (v := ?_) rfl ?_ ?_ ?_ (fun _ _ _ h => h) ?_ ?_ ?_; rotate_left; kernel_rfl; kernel_rfl; kernel_rfl; (focus (refine Or.inl ⟨by rfl, ?_⟩; intro w' hSw; (try dsimp only at hSw); go_simp)); exact hH) | (refine wpAnyH_take (i := 2) (v := ?_) rfl ?_ ?_ ?_ (fun _ _ _ h => h) ?_ ?_ ?_; rotate_left; kernel_rfl; kernel_rfl; kernel_rfl; (focus (refine Or.inl ⟨by rfl, ?_⟩; intro w' hSw; (try dsimp only at hSw); go_simp; with_reducible rfl)); exact hH)
      try simp only [Act.put, List.getElem_toArray, List.getElem_cons_succ, List.getElem_cons_zero, List.setIfInBounds_toArray, List.set_cons_zero, List.set_cons_succ]
      first | (refine wpAnyH_take (i := 3) (v := undef) rfl ?_ ?_ ?_ (fun _ _ _ h => h) ?_ ?_ ?_; kernel_rfl; kernel_rfl; kernel_rfl; exact Or.inr ⟨by rfl, rfl⟩; exact hH) | (refine wpAnyH_take (i := 3) (v := ?_) rfl ?_ ?_ ?_ (fun _ _ _ h => h) ?_ ?_ ?_; rotate_left; kernel_rfl; kernel_rfl; kernel_rfl; (focus (refine Or.inl ⟨by rfl, ?_⟩; intro w' hSw; (try dsimp only at hSw); go_simp)); exact hH) | (refine wpAnyH_take (i := 3) (v := ?_) rfl ?_ ?_ ?_ (fun _ _ _ h => h) ?_ ?_ ?_; rotate_left; kernel_rfl; kernel_rfl; kernel_rfl; (focus (refine Or.inl ⟨by rfl, ?_⟩; intro w' hSw; (try dsimp only at hSw); go_simp; with_reducible rfl)); exact hH)
      try simp only [Act.put, List.getElem_toArray, List.getElem_cons_succ, List.getElem_cons_zero, List.setIfInBounds_toArray, List.set_cons_zero, List.set_cons_succ]
      first | (refine wpAnyH_take (i := 4) (v := undef) rfl ?_ ?_ ?_ (fun _ _ _ h => h) ?_ ?_ ?_; kernel_rfl; kernel_rfl; kernel_rfl; exact Or.inr ⟨by rfl, rfl⟩; exact hH) | (refine wpAnyH_take (i := 4) (v := ?_) rfl ?_ ?_ ?_ (fun _ _ _ h => h) ?_ ?_ ?_; rotate_left; kernel_rfl; kernel_rfl; kernel_rfl; (focus (refine Or.inl ⟨by rfl, ?_⟩; intro w' hSw; (try dsimp only at hSw); go_simp)); exact hH) | (refine wpAnyH_take (i := 4) (v := ?_) rfl ?_ ?_ ?_ (fun _ _ _ h => h) ?_ ?_ ?_; rotate_left; kernel_rfl; kernel_rfl; kernel_rfl; (focus (refine Or.inl ⟨by rfl, ?_⟩; intro w' hSw; (try dsimp only at hSw); go_simp; with_reducible rfl)); exact hH)
      try simp only [Act.put, List.getElem_toArray, List.getElem_cons_succ, List.getElem_cons_zero, List.setIfInBounds_toArray, List.set_cons_zero, List.set_cons_succ]
      first | (refine wpAnyH_take (i := 7) (v := undef) rfl ?_ ?_ ?_ (fun _ _ _ h => h) ?_ ?_ ?_; kernel_rfl; kernel_rfl; kernel_rfl; exact Or.inr ⟨by rfl, rfl⟩; exact hH) | (refine wpAnyH_take (i := 7) (v := ?_) rfl ?_ ?_ ?_ (fun _ _ _ h => h) ?_ ?_ ?_; rotate_left; kernel_rfl; kernel_rfl; kernel_rfl; (focus (refine Or.inl ⟨by rfl, ?_⟩; intro w' hSw; (try dsimp only at hSw); go_simp)); exact hH) | (refine wpAnyH_take (i := 7) (v := ?_) rfl ?_ ?_ ?_ (fun _ _ _ h => h) ?_ ?_ ?_; rotate_left; kernel_rfl; kernel_rfl; kernel_rfl; (focus (refine Or.inl ⟨by rfl, ?_⟩; intro w' hSw; (try dsimp only at hSw); go_simp; with_reducible rfl)); exact hH)
      try simp only [Act.put, List.getElem_toArray, List.getElem_cons_succ, List.getElem_cons_zero, List.setIfInBounds_toArray, List.set_cons_zero, List.set_cons_succ]
      first | (refine wpAnyH_take (i := 8) (v := undef) rfl ?_ ?_ ?_ (fun _ _ _ h => h) ?_ ?_ ?_; kernel_rfl; kernel_rfl; kernel_rfl; exact Or.inr ⟨by rfl, rfl⟩; exact hH) | (refine wpAnyH_take (i := 8) (v := ?_) rfl ?_ ?_ ?_ (fun _ _ _ h => h) ?_ ?_ ?_; rotate_left; kernel_rfl; kernel_rfl; kernel_rfl; (focus (refine Or.inl ⟨by rfl, ?_⟩; intro w' hSw; (try dsimp only at hSw); go_simp)); exact hH) | (refine wpAnyH_take (i := 8) (v := ?_) rfl ?_ ?_ ?_ (fun _ _ _ h => h) ?_ ?_ ?_; rotate_left; kernel_rfl; kernel_rfl; kernel_rfl; (focus (refine Or.inl ⟨by rfl, ?_⟩; intro w' hSw; (try dsimp only at hSw); go_simp; with_reducible rfl)); exact hH)
      try simp only [Act.put, List.getElem_toArray, List.getElem_cons_succ, List.getElem_cons_zero, List.setIfInBounds_toArray, List.set_cons_zero, List.set_cons_succ]
      first | (refine wpAnyH_take (i := 9) (v := undef) rfl ?_ ?_ ?_ (fun _ _ _ h => h) ?_ ?_ ?_; kernel_rfl; kernel_rfl; kernel_rfl; exact Or.inr ⟨by rfl, rfl⟩; exact hH) | (refine wpAnyH_take (i := 9) (v := ?_) rfl ?_ ?_ ?_ (fun _ _ _ h => h) ?_ ?_ ?_; rotate_left; kernel_rfl; kernel_rfl; kernel_rfl; (focus (refine Or.inl ⟨by rfl, ?_⟩; intro w' hSw; (try dsimp only at hSw); go_simp)); exact hH) | (refine wpAnyH_take (i := 9) (v := ?_) rfl ?_ ?_ ?_ (fun _ _ _ h => h) ?_ ?_ ?_; rotate_left; kernel_rfl; kernel_rfl; kernel_rfl; (focus (refine Or.inl ⟨by rfl, ?_⟩; intro w' hSw; (try dsimp only at hSw); go_simp; with_reducible rfl)); exact hH)
      try simp only [Act.put, List.getElem_toArray, List.getElem_cons_succ, List.getElem_cons_zero, List.setIfInBounds_toArray, List.set_cons_zero, List.set_cons_succ]
      first | (refine wpAnyH_take (i := 10) (v := undef) rfl ?_ ?_ ?_ (fun _ _ _ h => h) ?_ ?_ ?_; kernel_rfl; kernel_rfl; kernel_rfl; exact Or.inr ⟨by rfl, rfl⟩; exact hH) | (refine wpAnyH_take (i := 10) (v := ?_) rfl ?_ ?_ ?_ (fun _ _ _ h => h) ?_ ?_ ?_; rotate_left; kernel_rfl; kernel_rfl; kernel_rfl; (focus (refine Or.inl ⟨by rfl, ?_⟩; intro w' hSw; (try dsimp only at hSw); go_simp)); exact hH) | (refine wpAnyH_take (i := 10) (v := ?_) rfl ?_ ?_ ?_ (fun _ _ _ h => h) ?_ ?_ ?_; rotate_left; kernel_rfl; kernel_rfl; kernel_rfl; (focus (refine Or.inl ⟨by rfl, ?_⟩; intro w' hSw; (try dsimp only at hSw); go_simp; with_reducible rfl)); exact hH)
      try simp only [Act.put, List.getElem_toArray, List.getElem_cons_succ, List.getElem_cons_zero, List.setIfInBounds_toArray, List.set_cons_zero, List.set_cons_succ]
      first | (refine wpAnyH_take (i := 11) (v := undef) rfl ?_ ?_ ?_ (fun _ _ _ h => h) ?_ ?_ ?_; kernel_rfl; kernel_rfl; kernel_rfl; exact Or.inr ⟨by rfl, rfl⟩; exact hH) | (refine wpAnyH_take (i := 11) (v := ?_) rfl ?_ ?_ ?_ (fun _ _ _ h => h) ?_ ?_ ?_; rotate_left; kernel_rfl; kernel_rfl; kernel_rfl; (focus (refine Or.inl ⟨by rfl, ?_⟩; intro w' hSw; (try dsimp only at hSw); go_simp)); exact hH) | (refine wpAnyH_take (i := 11) (v := ?_) rfl ?_ ?_ ?_ (fun _ _ _ h => h) ?_ ?_ ?_; rotate_left; kernel_rfl; kernel_rfl; kernel_rfl; (focus (refine Or.inl ⟨by rfl, ?_⟩; intro w' hSw; (try dsimp only at hSw); go_simp; with_reducible rfl)); exact hH)
      try simp only [Act.put, List.getElem_toArray, List.getElem_cons_succ, List.getElem_cons_zero, List.setIfInBounds_toArray, List.set_cons_zero, List.set_cons_succ]
      refine wpAnyH_ready (rs := [5, 12]) (by kernel_rfl) (by simp) ?_
      refine (AllReadyH.cons rfl (fun K hK => ?_) (AllReadyH.cons rfl (fun K hK => ?_) AllReadyH.nil))
      · skip
        go_simp
        have HTh1 := (HTh0).next ((Below.refl (wr.drew).heap.size (wr.drew)).alloc (Nat.le_refl _) (.cells #[.int .u64 x] 22))
        have NBb1 : Blk (wr.drew.alloc (.cells #[.int .u64 x] 22)) (wr.heap.size) 22 #[.int .u64 x] := Blk.new_at (by simp)
        have QGNB : wr.heap.size ≤ wr.heap.size := Nat.le_trans (Below.size (hbR)) (Nat.le_of_eq (by simp))
        have hb1 := Below.alloc (hbR) (Nat.le_trans (by omega) (Below.size (hbR))) (.cells #[.int .u64 x] 22)
        refine hK.out _ _ (KR.out _ hb1) (fun hH1 => ?_)
        clear hK K hH
        have hH := hH1
        clear hH1
        try simp only [Act.put, List.getElem_toArray, List.getElem_cons_succ, List.getElem_cons_zero, List.setIfInBounds_toArray, List.set_cons_zero, List.set_cons_succ]
        refine wpAnyH_ready (rs := [6, 12]) (by kernel_rfl) (by simp) ?_
        refine (AllReadyH.cons rfl (fun K hK => ?_) (AllReadyH.cons rfl (fun K hK => ?_) AllReadyH.nil))
        · skip
          obtain ⟨hi0, hz0, hz1, hz2⟩ := HIF.out
          refine want_yes (by rfl) ?_
          refine wp_append_one _ _ 23 rfl w.heap.size 22 i0 (.int .u64 0) 8 Try.underlying23 hi0 hz0 hz1 hz2 rfl u8 j (rowOf FA j) (by rfl) (HTh1).1 ⟨(wr.heap.size), 0, none⟩ 1 (.int .u64 x) (by rfl) ((NBb1).get 0 rfl) rfl hj1 (by omega) (Nat.le_trans wle (Below.size hb1)) ?_
          intro v2 w2 hown2 hgrow2 hat2
          rw [← EXA.out] at hown2
          have HTh2 := (HTh1).growA hgrow2 hown2 hat2
          have NBb2 := Blk.grown (NBb1) hgrow2 (fun e => by have := (OA.out).1 _ e.symm; omega)
          refine hK.out _ _ (KR.out _ (below_grown hb1 hgrow2 (Nat.le_trans wle (Below.size hb1)) (fun k hk => (OA.out).2 k hk))) (fun hH2 => ?_)
          clear hK K hH
          have hH := hH2
          clear hH2
          try simp only [Act.put, List.getElem_toArray, List.getElem_cons_succ, List.getElem_cons_zero, List.setIfInBounds_toArray, List.set_cons_zero, List.set_cons_succ]
          refine wpAnyH_ready (rs := [12]) (by kernel_rfl) (by simp) ?_
          refine (AllReadyH.cons rfl (fun K hK => ?_) AllReadyH.nil)
          go_simp
          have HTh3 := (HTh2).next ((Below.refl (w2).heap.size (w2)).alloc (Nat.le_refl _) (.cells #[.int .u64 y] 22))
          have NENBNC3 : wr.heap.size ≠ w2.heap.size := Nat.ne_of_lt (Nat.lt_of_lt_of_eq (Blk.lt NBb2) (by simp))
          have NBb3 := Blk.alloc NBb2 (.cells #[.int .u64 y] 22)
          have NCb3 : Blk (w2.alloc (.cells #[.int .u64 y] 22)) (w2.heap.size) 22 #[.int .u64 y] := Blk.new_at (by simp)
          have QGNC : wr.heap.size ≤ w2.heap.size := Nat.le_trans (Below.size ((below_grown hb1 hgrow2 (Nat.le_trans wle (Below.size hb1)) (fun k hk => (OA.out).2 k hk)))) (Nat.le_of_eq (by simp))
          have hb3 := Below.alloc ((below_grown hb1 hgrow2 (Nat.le_trans wle (Below.size hb1)) (fun k hk => (OA.out).2 k hk))) (Nat.le_trans (by omega) (Below.size ((below_grown hb1 hgrow2 (Nat.le_trans wle (Below.size hb1)) (fun k hk => (OA.out).2 k hk))))) (.cells #[.int .u64 y] 22)
          refine hK.out _ _ (KR.out _ hb3) (fun hH3 => ?_)
          clear hK K hH
          have hH := hH3
          clear hH3
          try simp only [Act.put, List.getElem_toArray, List.getElem_cons_succ, List.getElem_cons_zero, List.setIfInBounds_toArray, List.set_cons_zero, List.set_cons_succ]
          refine wpAnyH_ready (rs := [13]) (by kernel_rfl) (by simp) ?_
          refine (AllReadyH.cons rfl (fun K hK => ?_) AllReadyH.nil)
          obtain ⟨hi0, hz0, hz1, hz2⟩ := HIF.out
          refine want_yes (by rfl) ?_
          refine wp_append_one _ _ 23 rfl w.heap.size 22 i0 (.int .u64 0) 8 Try.underlying23 hi0 hz0 hz1 hz2 rfl u9 j (rowOf FB j) (by rfl) (HTh3).2.1 ⟨(w2.heap.size), 0, none⟩ 1 (.int .u64 y) (by rfl) ((NCb3).get 0 rfl) rfl hj1 (by omega) (Nat.le_trans wle (Below.size hb3)) ?_
          intro v4 w4 hown4 hgrow4 hat4
          rw [← EXB.out] at hown4
          have HTh4 := (HTh3).growB hgrow4 hown4 hat4
          have NBb4 := Blk.grown (NBb3) hgrow4 (fun e => by have := (OB.out).1 _ e.symm; omega)
          have NCb4 := Blk.grown (NCb3) hgrow4 (fun e => by have := (OB.out).1 _ e.symm; omega)
          refine hK.out _ _ (KR.out _ (below_grown hb3 hgrow4 (Nat.le_trans wle (Below.size hb3)) (fun k hk => (OB.out).2 k hk))) (fun hH4 => ?_)
          clear hK K hH
          have hH := hH4
          clear hH4
          try simp only [Act.put, List.getElem_toArray, List.getElem_cons_succ, List.getElem_cons_zero, List.setIfInBounds_toArray, List.set_cons_zero, List.set_cons_succ]
          first | (refine wpAnyH_take (i := 14) (v := undef) rfl ?_ ?_ ?_ (fun _ _ _ h => h) ?_ ?_ ?_; kernel_rfl; kernel_rfl; kernel_rfl; exact Or.inr ⟨by rfl, rfl⟩; exact hH) | (refine wpAnyH_take (i := 14) (v := ?_) rfl ?_ ?_ ?_ (fun _ _ _ h => h) ?_ ?_ ?_; rotate_left; kernel_rfl; kernel_rfl; kernel_rfl; (focus (refine Or.inl ⟨by rfl, ?_⟩; intro w' hSw; (try dsimp only at hSw); go_simp)); exact hH) | (refine wpAnyH_take (i := 14) (v := ?_) rfl ?_ ?_ ?_ (fun _ _ _ h => h) ?_ ?_ ?_; rotate_left; kernel_rfl; kernel_rfl; kernel_rfl; (focus (refine Or.inl ⟨by rfl, ?_⟩; intro w' hSw; (try dsimp only at hSw); go_simp; with_reducible rfl)); exact hH)
          try simp only [Act.put, List.getElem_toArray, List.getElem_cons_succ, List.getElem_cons_zero, List.setIfInBounds_toArray, List.set_cons_zero, List.set_cons_succ]
          first | (refine wpAnyH_take (i := 15) (v := undef) rfl ?_ ?_ ?_ (fun _ _ _ h => h) ?_ ?_ ?_; kernel_rfl; kernel_rfl; kernel_rfl; exact Or.inr ⟨by rfl, rfl⟩; exact hH) | (refine wpAnyH_take (i := 15) (v := ?_) rfl ?_ ?_ ?_ (fun _ _ _ h => h) ?_ ?_ ?_; rotate_left; kernel_rfl; kernel_rfl; kernel_rfl; (focus (refine Or.inl ⟨by rfl, ?_⟩; intro w' hSw; (try dsimp only at hSw); go_simp)); exact hH) | (refine wpAnyH_take (i := 15) (v := ?_) rfl ?_ ?_ ?_ (fun _ _ _ h => h) ?_ ?_ ?_; rotate_left; kernel_rfl; kernel_rfl; kernel_rfl; (focus (refine Or.inl ⟨by rfl, ?_⟩; intro w' hSw; (try dsimp only at hSw); go_simp; with_reducible rfl)); exact hH)
          try simp only [Act.put, List.getElem_toArray, List.getElem_cons_succ, List.getElem_cons_zero, List.setIfInBounds_toArray, List.set_cons_zero, List.set_cons_succ]
          refine wpAnyH_done (by kernel_rfl) ?_ _
          refine NoPanic.normal ?_
          have HT2 := Lib.hid (HTh4)
          go_wp2_with fail
          go_roundg gm
          case rel => exact ⟨j + 1, _, by omega, rfl, by have := HQ.out; omega, HT2.out⟩
          case measure => omega
        · skip
          go_simp
          have HTh5 := (HTh1).next ((Below.refl ((wr.drew.alloc (.cells #[.int .u64 x] 22))).heap.size ((wr.drew.alloc (.cells #[.int .u64 x] 22)))).alloc (Nat.le_refl _) (.cells #[.int .u64 y] 22))
          have NENBNC5 : wr.heap.size ≠ wr.heap.size + 1 := Nat.ne_of_lt (Nat.lt_of_lt_of_eq (Blk.lt NBb1) (by simp))
          have NBb5 := Blk.alloc NBb1 (.cells #[.int .u64 y] 22)
          have NCb5 : Blk ((wr.drew.alloc (.cells #[.int .u64 x] 22)).alloc (.cells #[.int .u64 y] 22)) (wr.heap.size + 1) 22 #[.int .u64 y] := Blk.new_at (by simp)
          have QGNC : wr.heap.size ≤ wr.heap.size + 1 := Nat.le_trans (Below.size (hb1)) (Nat.le_of_eq (by simp))
          have hb5 := Below.alloc (hb1) (Nat.le_trans (by omega) (Below.size (hb1))) (.cells #[.int .u64 y] 22)
          refine hK.out _ _ (KR.out _ hb5) (fun hH5 => ?_)
          clear hK K hH
          have hH := hH5
          clear hH5
          try simp only [Act.put, List.getElem_toArray, List.getElem_cons_succ, List.getElem_cons_zero, List.setIfInBounds_toArray, List.set_cons_zero, List.set_cons_succ]
          refine wpAnyH_ready (rs := [6]) (by kernel_rfl) (by simp) ?_
          refine (AllReadyH.cons rfl (fun K hK => ?_) AllReadyH.nil)
          obtain ⟨hi0, hz0, hz1, hz2⟩ := HIF.out
          refine want_yes (by rfl) ?_
          refine wp_append_one _ _ 23 rfl w.heap.size 22 i0 (.int .u64 0) 8 Try.underlying23 hi0 hz0 hz1 hz2 rfl u8 j (rowOf FA j) (by rfl) (HTh5).1 ⟨(wr.heap.size), 0, none⟩ 1 (.int .u64 x) (by rfl) ((NBb5).get 0 rfl) rfl hj1 (by omega) (Nat.le_trans wle (Below.size hb5)) ?_
          intro v6 w6 hown6 hgrow6 hat6
          rw [← EXA.out] at hown6
          have HTh6 := (HTh5).growA hgrow6 hown6 hat6
          have NBb6 := Blk.grown (NBb5) hgrow6 (fun e => by have := (OA.out).1 _ e.symm; omega)
          have NCb6 := Blk.grown (NCb5) hgrow6 (fun e => by have := (OA.out).1 _ e.symm; omega)
          refine hK.out _ _ (KR.out _ (below_grown hb5 hgrow6 (Nat.le_trans wle (Below.size hb5)) (fun k hk => (OA.out).2 k hk))) (fun hH6 => ?_)
          clear hK K hH
          have hH := hH6
          clear hH6
          try simp only [Act.put, List.getElem_toArray, List.getElem_cons_succ, List.getElem_cons_zero, List.setIfInBounds_toArray, List.set_cons_zero, List.set_cons_succ]
          refine wpAnyH_ready (rs := [13]) (by kernel_rfl) (by simp) ?_
          refine (AllReadyH.cons rfl (fun K hK => ?_) AllReadyH.nil)
          obtain ⟨hi0, hz0, hz1, hz2⟩ := HIF.out
          refine want_yes (by rfl) ?_
          refine wp_append_one _ _ 23 rfl w.heap.size 22 i0 (.int .u64 0) 8 Try.underlying23 hi0 hz0 hz1 hz2 rfl u9 j (rowOf FB j) (by rfl) (HTh6).2.1 ⟨(wr.heap.size + 1), 0, none⟩ 1 (.int .u64 y) (by rfl) ((NCb6).get 0 rfl) rfl hj1 (by omega) (Nat.le_trans wle (Below.size (below_grown hb5 hgrow6 (Nat.le_trans wle (Below.size hb5)) (fun k hk => (OA.out).2 k hk)))) ?_
          intro v7 w7 hown7 hgrow7 hat7
          rw [← EXB.out] at hown7
          have HTh7 := (HTh6).growB hgrow7 hown7 hat7
          have NBb7 := Blk.grown (NBb6) hgrow7 (fun e => by have := (OB.out).1 _ e.symm; omega)
          have NCb7 := Blk.grown (NCb6) hgrow7 (fun e => by have := (OB.out).1 _ e.symm; omega)
          refine hK.out _ _ (KR.out _ (below_grown (below_grown hb5 hgrow6 (Nat.le_trans wle (Below.size hb5)) (fun k hk => (OA.out).2 k hk)) hgrow7 (Nat.le_trans wle (Below.size (below_grown hb5 hgrow6 (Nat.le_trans wle (Below.size hb5)) (fun k hk => (OA.out).2 k hk)))) (fun k hk => (OB.out).2 k hk))) (fun hH7 => ?_)
          clear hK K hH
          have hH := hH7
          clear hH7
          try simp only [Act.put, List.getElem_toArray, List.getElem_cons_succ, List.getElem_cons_zero, List.setIfInBounds_toArray, List.set_cons_zero, List.set_cons_succ]
          first | (refine wpAnyH_take (i := 14) (v := undef) rfl ?_ ?_ ?_ (fun _ _ _ h => h) ?_ ?_ ?_; kernel_rfl; kernel_rfl; kernel_rfl; exact Or.inr ⟨by rfl, rfl⟩; exact hH) | (refine wpAnyH_take (i := 14) (v := ?_) rfl ?_ ?_ ?_ (fun _ _ _ h => h) ?_ ?_ ?_; rotate_left; kernel_rfl; kernel_rfl; kernel_rfl; (focus (refine Or.inl ⟨by rfl, ?_⟩; intro w' hSw; (try dsimp only at hSw); go_simp)); exact hH) | (refine wpAnyH_take (i := 14) (v := ?_) rfl ?_ ?_ ?_ (fun _ _ _ h => h) ?_ ?_ ?_; rotate_left; kernel_rfl; kernel_rfl; kernel_rfl; (focus (refine Or.inl ⟨by rfl, ?_⟩; intro w' hSw; (try dsimp only at hSw); go_simp; with_reducible rfl)); exact hH)
          try simp only [Act.put, List.getElem_toArray, List.getElem_cons_succ, List.getElem_cons_zero, List.setIfInBounds_toArray, List.set_cons_zero, List.set_cons_succ]
          first | (refine wpAnyH_take (i := 15) (v := undef) rfl ?_ ?_ ?_ (fun _ _ _ h => h) ?_ ?_ ?_; kernel_rfl; kernel_rfl; kernel_rfl; exact Or.inr ⟨by rfl, rfl⟩; exact hH) | (refine wpAnyH_take (i := 15) (v := ?_) rfl ?_ ?_ ?_ (fun _ _ _ h => h) ?_ ?_ ?_; rotate_left; kernel_rfl; kernel_rfl; kernel_rfl; (focus (refine Or.inl ⟨by rfl, ?_⟩; intro w' hSw; (try dsimp only at hSw); go_simp)); exact hH) | (refine wpAnyH_take (i := 15) (v := ?_) rfl ?_ ?_ ?_ (fun _ _ _ h => h) ?_ ?_ ?_; rotate_left; kernel_rfl; kernel_rfl; kernel_rfl; (focus (refine Or.inl ⟨by rfl, ?_⟩; intro w' hSw; (try dsimp only at hSw); go_simp; with_reducible rfl)); exact hH)
          try simp only [Act.put, List.getElem_toArray, List.getElem_cons_succ, List.getElem_cons_zero, List.setIfInBounds_toArray, List.set_cons_zero, List.set_cons_succ]
          refine wpAnyH_done (by kernel_rfl) ?_ _
          refine NoPanic.normal ?_
          have HT2 := Lib.hid (HTh7)
          go_wp2_with fail
          go_roundg gm
          case rel => exact ⟨j + 1, _, by omega, rfl, by have := HQ.out; omega, HT2.out⟩
          case measure => omega
      · skip
        go_simp
        have HTh8 := (HTh0).next ((Below.refl (wr.drew).heap.size (wr.drew)).alloc (Nat.le_refl _) (.cells #[.int .u64 y] 22))
        have NCb8 : Blk (wr.drew.alloc (.cells #[.int .u64 y] 22)) (wr.heap.size) 22 #[.int .u64 y] := Blk.new_at (by simp)
        have QGNC : wr.heap.size ≤ wr.heap.size := Nat.le_trans (Below.size (hbR)) (Nat.le_of_eq (by simp))
        have hb8 := Below.alloc (hbR) (Nat.le_trans (by omega) (Below.size (hbR))) (.cells #[.int .u64 y] 22)
        refine hK.out _ _ (KR.out _ hb8) (fun hH8 => ?_)
        clear hK K hH
        have hH := hH8
        clear hH8
        try simp only [Act.put, List.getElem_toArray, List.getElem_cons_succ, List.getElem_cons_zero, List.setIfInBounds_toArray, List.set_cons_zero, List.set_cons_succ]
        refine wpAnyH_ready (rs := [5]) (by kernel_rfl) (by simp) ?_
        refine (AllReadyH.cons rfl (fun K hK => ?_) AllReadyH.nil)
        go_simp
        have HTh9 := (HTh8).next ((Below.refl ((wr.drew.alloc (.cells #[.int .u64 y] 22))).heap.size ((wr.drew.alloc (.cells #[.int .u64 y] 22)))).alloc (Nat.le_refl _) (.cells #[.int .u64 x] 22))
        have NENCNB9 : wr.heap.size ≠ wr.heap.size + 1 := Nat.ne_of_lt (Nat.lt_of_lt_of_eq (Blk.lt NCb8) (by simp))
        have NCb9 := Blk.alloc NCb8 (.cells #[.int .u64 x] 22)
        have NBb9 : Blk ((wr.drew.alloc (.cells #[.int .u64 y] 22)).alloc (.cells #[.int .u64 x] 22)) (wr.heap.size + 1) 22 #[.int .u64 x] := Blk.new_at (by simp)
        have QGNB : wr.heap.size ≤ wr.heap.size + 1 := Nat.le_trans (Below.size (hb8)) (Nat.le_of_eq (by simp))
        have hb9 := Below.alloc (hb8) (Nat.le_trans (by omega) (Below.size (hb8))) (.cells #[.int .u64 x] 22)
        refine hK.out _ _ (KR.out _ hb9) (fun hH9 => ?_)
        clear hK K hH
        have hH := hH9
        clear hH9
        try simp only [Act.put, List.getElem_toArray, List.getElem_cons_succ, List.getElem_cons_zero, List.setIfInBounds_toArray, List.set_cons_zero, List.set_cons_succ]
        refine wpAnyH_ready (rs := [6]) (by kernel_rfl) (by simp) ?_
        refine (AllReadyH.cons rfl (fun K hK => ?_) AllReadyH.nil)
        obtain ⟨hi0, hz0, hz1, hz2⟩ := HIF.out
        refine want_yes (by rfl) ?_
        refine wp_append_one _ _ 23 rfl w.heap.size 22 i0 (.int .u64 0) 8 Try.underlying23 hi0 hz0 hz1 hz2 rfl u8 j (rowOf FA j) (by rfl) (HTh9).1 ⟨(wr.heap.size + 1), 0, none⟩ 1 (.int .u64 x) (by rfl) ((NBb9).get 0 rfl) rfl hj1 (by omega) (Nat.le_trans wle (Below.size hb9)) ?_
        intro v10 w10 hown10 hgrow10 hat10
        rw [← EXA.out] at hown10
        have HTh10 := (HTh9).growA hgrow10 hown10 hat10
        have NBb10 := Blk.grown (NBb9) hgrow10 (fun e => by have := (OA.out).1 _ e.symm; omega)
        have NCb10 := Blk.grown (NCb9) hgrow10 (fun e => by have := (OA.out).1 _ e.symm; omega)
        refine hK.out _ _ (KR.out _ (below_grown hb9 hgrow10 (Nat.le_trans wle (Below.size hb9)) (fun k hk => (OA.out).2 k hk))) (fun hH10 => ?_)
        clear hK K hH
        have hH := hH10
        clear hH10
        try simp only [Act.put, List.getElem_toArray, List.getElem_cons_succ, List.getElem_cons_zero, List.setIfInBounds_toArray, List.set_cons_zero, List.set_cons_succ]
        refine wpAnyH_ready (rs := [13]) (by kernel_rfl) (by simp) ?_
        refine (AllReadyH.cons rfl (fun K hK => ?_) AllReadyH.nil)
        obtain ⟨hi0, hz0, hz1, hz2⟩ := HIF.out
        refine want_yes (by rfl) ?_
        refine wp_append_one _ _ 23 rfl w.heap.size 22 i0 (.int .u64 0) 8 Try.underlying23 hi0 hz0 hz1 hz2 rfl u9 j (rowOf FB j) (by rfl) (HTh10).2.1 ⟨(wr.heap.size), 0, none⟩ 1 (.int .u64 y) (by rfl) ((NCb10).get 0 rfl) rfl hj1 (by omega) (Nat.le_trans wle (Below.size (below_grown hb9 hgrow10 (Nat.le_trans wle (Below.size hb9)) (fun k hk => (OA.out).2 k hk)))) ?_
        intro v11 w11 hown11 hgrow11 hat11
        rw [← EXB.out] at hown11
        have HTh11 := (HTh10).growB hgrow11 hown11 hat11
        have NBb11 := Blk.grown (NBb10) hgrow11 (fun e => by have := (OB.out).1 _ e.symm; omega)
        have NCb11 := Blk.grown (NCb10) hgrow11 (fun e => by have := (OB.out).1 _ e.symm; omega)
        refine hK.out _ _ (KR.out _ (below_grown (below_grown hb9 hgrow10 (Nat.le_trans wle (Below.size hb9)) (fun k hk => (OA.out).2 k hk)) hgrow11 (Nat.le_trans wle (Below.size (below_grown hb9 hgrow10 (Nat.le_trans wle (Below.size hb9)) (fun k hk => (OA.out).2 k hk)))) (fun k hk => (OB.out).2 k hk))) (fun hH11 => ?_)
        clear hK K hH
        have hH := hH11
        clear hH11
        try simp only [Act.put, List.getElem_toArray, List.getElem_cons_succ, List.getElem_cons_zero, List.setIfInBounds_toArray, List.set_cons_zero, List.set_cons_succ]
        first | (refine wpAnyH_take (i := 14) (v := undef) rfl ?_ ?_ ?_ (fun _ _ _ h => h) ?_ ?_ ?_; kernel_rfl; kernel_rfl; kernel_rfl; exact Or.inr ⟨by rfl, rfl⟩; exact hH) | (refine wpAnyH_take (i := 14) (v := ?_) rfl ?_ ?_ ?_ (fun _ _ _ h => h) ?_ ?_ ?_; rotate_left; kernel_rfl; kernel_rfl; kernel_rfl; (focus (refine Or.inl ⟨by rfl, ?_⟩; intro w' hSw; (try dsimp only at hSw); go_simp)); exact hH) | (refine wpAnyH_take (i := 14) (v := ?_) rfl ?_ ?_ ?_ (fun _ _ _ h => h) ?_ ?_ ?_; rotate_left; kernel_rfl; kernel_rfl; kernel_rfl; (focus (refine Or.inl ⟨by rfl, ?_⟩; intro w' hSw; (try dsimp only at hSw); go_simp; with_reducible rfl)); exact hH)
        try simp only [Act.put, List.getElem_toArray, List.getElem_cons_succ, List.getElem_cons_zero, List.setIfInBounds_toArray, List.set_cons_zero, List.set_cons_succ]
        first | (refine wpAnyH_take (i := 15) (v := undef) rfl ?_ ?_ ?_ (fun _ _ _ h => h) ?_ ?_ ?_; kernel_rfl; kernel_rfl; kernel_rfl; exact Or.inr ⟨by rfl, rfl⟩; exact hH) | (refine wpAnyH_take (i := 15) (v := ?_) rfl ?_ ?_ ?_ (fun _ _ _ h => h) ?_ ?_ ?_; rotate_left; kernel_rfl; kernel_rfl; kernel_rfl; (focus (refine Or.inl ⟨by rfl, ?_⟩; intro w' hSw; (try dsimp only at hSw); go_simp)); exact hH) | (refine wpAnyH_take (i := 15) (v := ?_) rfl ?_ ?_ ?_ (fun _ _ _ h => h) ?_ ?_ ?_; rotate_left; kernel_rfl; kernel_rfl; kernel_rfl; (focus (refine Or.inl ⟨by rfl, ?_⟩; intro w' hSw; (try dsimp only at hSw); go_simp; with_reducible rfl)); exact hH)
        try simp only [Act.put, List.getElem_toArray, List.getElem_cons_succ, List.getElem_cons_zero, List.setIfInBounds_toArray, List.set_cons_zero, List.set_cons_succ]
        refine wpAnyH_done (by kernel_rfl) ?_ _
        refine NoPanic.normal ?_
        have HT2 := Lib.hid (HTh11)
        go_wp2_with fail
        go_roundg gm
        case rel => exact ⟨j + 1, _, by omega, rfl, by have := HQ.out; omega, HT2.out⟩
        case measure => omega
    · obtain rfl : gk = 0 := by omega
      obtain rfl : j = z := by omega
      obtain rfl : q = -1 := by omega
      obtain ⟨A2, cA2, rfl, -, -, hA2⟩ := row_reads HT.out.1
      obtain ⟨B2, cB2, rfl, -, -, hB2⟩ := row_reads HT.out.2.1
      have RA := HRA.out.next HT.out.2.2.2
      have RB := HRB.out.next HT.out.2.2.2
      have RA2 : RowAt wr A2 j FA := ⟨fun h => by obtain ⟨g, e, k, _⟩ := hA2 h; exact ⟨g, 0, e, k⟩, fun b off e i hi => by
        obtain ⟨g, e', _, k⟩ := hA2 (by omega)
        rw [e] at e'; injection e' with e'; injection e' with e1 e2; subst e1 e2
        rw [Nat.zero_add]; exact k i hi, fun i hi => by rw [← EFA.out]; exact HRA.out.2.2 _ (by omega)⟩
      have RB2 : RowAt wr B2 j FB := ⟨fun h => by obtain ⟨g, e, k, _⟩ := hB2 h; exact ⟨g, 0, e, k⟩, fun b off e i hi => by
        obtain ⟨g, e', _, k⟩ := hB2 (by omega)
        rw [e] at e'; injection e' with e'; injection e' with e1 e2; subst e1 e2
        rw [Nat.zero_add]; exact k i hi, fun i hi => by rw [← EFB.out]; exact HRB.out.2.2 _ (by omega)⟩
      have fA : FA = fun i => F (j - 1 - i) := funext fun i => (EFA.out i).symm
      have fB : FB = fun i => G (j - 1 - i) := funext fun i => (EFB.out i).symm
      have back : dsum FA FB j = dsum F G j := by rw [fA, fB]; exact dsum_back F G j
      have split := dsum_split F G k (j - k)
      rw [show k + (j - k) = j by omega] at split
      have X0 : 0 ≤ dsum F G k := dsum_nonneg (n := j) (fun i hi => HRA.out.2.2 i (by omega)) (fun i hi => HRB.out.2.2 i (by omega)) k hkz
      have Y0 : 0 ≤ dsum (fun i => F (k + i)) (fun i => G (k + i)) (j - k) := dsum_nonneg (n := j - k) (fun i hi => HRA.out.2.2 _ (by omega)) (fun i hi => HRB.out.2.2 _ (by omega)) _ (Nat.le_refl _)
      have parts := rows_parts X0 Y0 split
      have wX := dot_words X0
      have wY := dot_words Y0
      obtain ⟨S, eS⟩ : ∃ s, dsum F G j = s := ⟨_, rfl⟩
      obtain ⟨X, eX⟩ : ∃ s, dsum F G k = s := ⟨_, rfl⟩
      obtain ⟨Y, eY⟩ : ∃ s, dsum (fun i => F (k + i)) (fun i => G (k + i)) (j - k) = s := ⟨_, rfl⟩
      rw [eS] at back
      rw [eS, eX, eY] at parts
      rw [eX] at wX
      rw [eY] at wY
      obtain ⟨s1, e1⟩ : ∃ z, dotH S = z := ⟨_, rfl⟩
      obtain ⟨s2, e2⟩ : ∃ z, dotL S = z := ⟨_, rfl⟩
      obtain ⟨s3, e3⟩ : ∃ z, dotE S = z := ⟨_, rfl⟩
      obtain ⟨x1, f1⟩ : ∃ z, dotH X = z := ⟨_, rfl⟩
      obtain ⟨x2, f2⟩ : ∃ z, dotL X = z := ⟨_, rfl⟩
      obtain ⟨x3, f3⟩ : ∃ z, dotE X = z := ⟨_, rfl⟩
      obtain ⟨y1, g1⟩ : ∃ z, dotH Y = z := ⟨_, rfl⟩
      obtain ⟨y2, g2⟩ : ∃ z, dotL Y = z := ⟨_, rfl⟩
      obtain ⟨y3, g3⟩ : ∃ z, dotE Y = z := ⟨_, rfl⟩
      rw [e1, e2, e3, f1, f2, f3, g1, g2, g3] at parts
      rw [f1, f2] at wX
      rw [g1, g2] at wY
      obtain ⟨p1, h1⟩ : ∃ z, plusH x1 x2 y1 y2 = z := ⟨_, rfl⟩
      obtain ⟨p2, h2⟩ : ∃ z, plusL x1 x2 y1 y2 = z := ⟨_, rfl⟩
      obtain ⟨p3, h3⟩ : ∃ z, plusE x1 x2 y1 y2 = z := ⟨_, rfl⟩
      rw [h1, h2, h3] at parts
      have PL := Lib.hid (fun w => wplus_val x1 x2 y1 y2 p1 p2 p3 w wX.1 wX.2 wY.1 wY.2 h1 h2 h3)
      have DS := Lib.hid (fun w hA hB => dot_row A n cA F B m cB G S s1 s2 s3 w hA hB (by omega) (by omega) (by rw [HZ.out]; exact eS) e1 e2 e3)
      have DB := Lib.hid (fun w hA hB => dot_row A2 j cA2 FA B2 j cB2 FB S s1 s2 s3 w hA hB (by omega) (by omega) (by rw [Nat.min_self]; exact back) e1 e2 e3)
      have DO := Lib.hid (fun w hA hB => dot_row B m cB G A n cA F S s1 s2 s3 w hA hB (by omega) (by omega) (by rw [Nat.min_comm, HZ.out, dsum_comm]; exact eS) e1 e2 e3)
      have DX := Lib.hid (fun w hA hB => dot_row A k cA F B k cB G X x1 x2 x3 w hA hB (by omega) (by omega) (by rw [Nat.min_self]; exact eX) f1 f2 f3)
      have DY := Lib.hid (fun A' cA' B' cB' w hA hB => dot_row A' (j - k) cA' (fun i => F (k + i)) B' (j - k) cB' (fun i => G (k + i)) Y y1 y2 y3 w hA hB (by omega) (by omega) (by rw [Nat.min_self]; exact eY) g1 g2 g3)
      have PT := Lib.hid parts
      have HR := Lib.hid (And.intro RA (And.intro RB (And.intro RA2 RB2)))
      have HB := Lib.hid HT.out.2.2.2
      have kk9 : k ≤ j := hkz
      have zz : (j : Int) ≤ 20 := by omega
      have w1' : IntKind.u64.wrap ((j : Int) + 1) = (j : Int) + 1 := by rw [IntKind.wrap_u64]; omega
      clear hA2 hB2 RA RB RA2 RB2 fA fB back split X0 Y0 parts wX wY eS eX eY e1 e2 e3 f1 f2 f3 g1 g2 g3 h1 h2 h3 HT hlt hj hq HQ hkz
      have B10 : Below wr.heap.size wr wr := Below.refl _ _
      go_wp2_with fail
      with_reducible refine (DS.out _ HR.out.1 HR.out.2.1).mono ?_
      rintro e w11 ⟨rfl, hb11⟩
      have B11 : Below wr.heap.size wr w11 := by first | with_reducible exact below_next B10 hb11 | exact below_step B10 (by go_grown) hb11
      clear hb11 B10
      go_wp2_with fail
      with_reducible refine (DB.out _ (HR.out.2.2.1.next (B11.alloc B11.size _)) (HR.out.2.2.2.next (B11.alloc B11.size _))).mono ?_
      rintro e w12 ⟨rfl, hb12⟩
      have SBm : Blk w12 (w11.heap.size) 25 #[.int .u64 s1, .int .u64 s2] := Blk.next (by repeat (first | (refine Blk.new_at ?_; simp only [World.size_alloc]; done) | (with_reducible refine Blk.alloc ?_ _) | (with_reducible refine Blk.drewN ?_ _))) hb12
      have SBb := SBm
      clear SBm
      have SBc0 : World.cell? w12 ⟨w11.heap.size, 0, none⟩ = some (.int .u64 s1) := SBb.get 0 rfl
      have SBf0 := Blk.frozen SBb 0
      have SBc1 : World.cell? w12 ⟨w11.heap.size, 1, none⟩ = some (.int .u64 s2) := SBb.get 1 rfl
      have SBf1 := Blk.frozen SBb 1
      have SBn := Blk.lt SBb
      have B12 : Below wr.heap.size wr w12 := by first | with_reducible exact below_next B11 hb12 | exact below_step B11 (by go_grown) hb12
      clear hb12 B11
      have B13 := B12.alloc B12.size (.cells #[.int .u64 s1, .int .u64 s2] 25)
      have HS := Lib.hid (Blk.alloc SBb (.cells #[.int .u64 s1, .int .u64 s2] 25))
      have HT := Lib.hid (Blk.new w12 25 #[.int .u64 s1, .int .u64 s2])
      have HB13 := Lib.hid B13
      have HRA3 := Lib.hid (HR.out.1.next B13)
      have HRB3 := Lib.hid (HR.out.2.1.next B13)
      have kk0 : (0 : Int) ≤ (k : Int) := by omega
      have kk1 : (k : Int) ≤ (n : Int) := by omega
      have kk2 : (k : Int) ≤ (m : Int) := by omega
      have kk3 : (k : Int) ≤ (cA : Int) := by omega
      have kk4 : (k : Int) ≤ (cB : Int) := by omega
      have kk5 : (k : Int) ≤ (j : Int) := by omega
      have kk6 : (j : Int) ≤ (cA : Int) := by omega
      have kk7 : (j : Int) ≤ (cB : Int) := by omega
      have kk8 : IntKind.i64.wrap (k : Int) = (k : Int) := by rw [IntKind.wrap_i64]; omega
      clear SBb SBc0 SBc1 SBf0 SBf1 SBn B12 B13
      go_upto_region 14 with (fail)
      generalize w12.alloc (.cells #[.int .u64 s1, .int .u64 s2] 25) = wq at HS HT HB13 HRA3 HRB3 ⊢
      rw [HK.out]
      have KE : Hid (∀ w', Below (wq.heap.size) wq w' → (True) ∧ Below (wq.heap.size) wq w') := fun w' hb => ⟨trivial, hb⟩
      go_cut [16, 17] (fun xv ev wc => ∃ qx, xv = .pointer (some ⟨qx, 0, none⟩) ∧ ev = .int .i64 x3 ∧ Blk wc qx 25 #[.int .u64 x1, .int .u64 x2] ∧ Below wq.heap.size wq wc)
      case first =>
        clear HS HT HB13 HR HB DS DB DO DY PL PT AW
        refine wp_region_noPanic ?_
        refine wp_region_held_drew (S := fun w' => (True) ∧ Below (wq.heap.size) wq w') (by kernel_rfl) (KE.out _ (below_of_drew ((Below.refl wq.heap.size wq)))) (fun hH => ?_)
        have hbR := below_of_drew ((Below.refl wq.heap.size wq))
        first | (refine wpAnyH_take (i := 0) (v := undef) rfl ?_ ?_ ?_ (fun _ _ _ h => h) ?_ ?_ ?_; kernel_rfl; kernel_rfl; kernel_rfl; exact Or.inr ⟨by rfl, rfl⟩; exact hH) | (refine wpAnyH_take (i := 0) (v := ?_) rfl ?_ ?_ ?_ (fun _ _ _ h => h) ?_ ?_ ?_; rotate_left; kernel_rfl; kernel_rfl; kernel_rfl; (focus (refine Or.inl ⟨by rfl, ?_⟩; intro w' hSw; (try dsimp only at hSw); go_simp)); exact hH) | (refine wpAnyH_take (i := 0) (v := ?_) rfl ?_ ?_ ?_ (fun _ _ _ h => h) ?_ ?_ ?_; rotate_left; kernel_rfl; kernel_rfl; kernel_rfl; (focus (refine Or.inl ⟨by rfl, ?_⟩; intro w' hSw; (try dsimp only at hSw); go_simp; with_reducible rfl)); exact hH)
        try simp only [Act.put, List.getElem_toArray, List.getElem_cons_succ, List.getElem_cons_zero, List.setIfInBounds_toArray, List.set_cons_zero, List.set_cons_succ]
        first | (refine wpAnyH_take (i := 1) (v := undef) rfl ?_ ?_ ?_ (fun _ _ _ h => h) ?_ ?_ ?_; kernel_rfl; kernel_rfl; kernel_rfl; exact Or.inr ⟨by rfl, rfl⟩; exact hH) | (refine wpAnyH_take (i := 1) (v := ?_) rfl ?_ ?_ ?_ (fun _ _ _ h => h) ?_ ?_ ?_; rotate_left; kernel_rfl; kernel_rfl; kernel_rfl; (focus (refine Or.inl ⟨by rfl, ?_⟩; intro w' hSw; (try dsimp only at hSw); go_simp)); exact hH) | (refine wpAnyH_take (i := 1) (v := ?_) rfl ?_ ?_ ?_ (fun _ _ _ h => h) ?_ ?_ ?_; rotate_left; kernel_rfl; kernel_rfl; kernel_rfl; (focus (refine Or.inl ⟨by rfl, ?_⟩; intro w' hSw; (try dsimp only at hSw); go_simp; with_reducible rfl)); exact hH)
        try simp only [Act.put, List.getElem_toArray, List.getElem_cons_succ, List.getElem_cons_zero, List.setIfInBounds_toArray, List.set_cons_zero, List.set_cons_succ]
        first | (refine wpAnyH_take (i := 2) (v := undef) rfl ?_ ?_ ?_ (fun _ _ _ h => h) ?_ ?_ ?_; kernel_rfl; kernel_rfl; kernel_rfl; exact Or.inr ⟨by rfl, rfl⟩; exact hH) | (refine wpAnyH_take (i := 2) (v := ?_) rfl ?_ ?_ ?_ (fun _ _ _ h => h) ?_ ?_ ?_; rotate_left; kernel_rfl; kernel_rfl; kernel_rfl; (focus (refine Or.inl ⟨by rfl, ?_⟩; intro w' hSw; (try dsimp only at hSw); go_simp)); exact hH) | (refine wpAnyH_take (i := 2) (v := ?_) rfl ?_ ?_ ?_ (fun _ _ _ h => h) ?_ ?_ ?_; rotate_left; kernel_rfl; kernel_rfl; kernel_rfl; (focus (refine Or.inl ⟨by rfl, ?_⟩; intro w' hSw; (try dsimp only at hSw); go_simp; with_reducible rfl)); exact hH)
        try simp only [Act.put, List.getElem_toArray, List.getElem_cons_succ, List.getElem_cons_zero, List.setIfInBounds_toArray, List.set_cons_zero, List.set_cons_succ]
        first | (refine wpAnyH_take (i := 3) (v := undef) rfl ?_ ?_ ?_ (fun _ _ _ h => h) ?_ ?_ ?_; kernel_rfl; kernel_rfl; kernel_rfl; exact Or.inr ⟨by rfl, rfl⟩; exact hH) | (refine wpAnyH_take (i := 3) (v := ?_) rfl ?_ ?_ ?_ (fun _ _ _ h => h) ?_ ?_ ?_; rotate_left; kernel_rfl; kernel_rfl; kernel_rfl; (focus (refine Or.inl ⟨by rfl, ?_⟩; intro w' hSw; (try dsimp only at hSw); go_simp)); exact hH) | (refine wpAnyH_take (i := 3) (v := ?_) rfl ?_ ?_ ?_ (fun _ _ _ h => h) ?_ ?_ ?_; rotate_left; kernel_rfl; kernel_rfl; kernel_rfl; (focus (refine Or.inl ⟨by rfl, ?_⟩; intro w' hSw; (try dsimp only at hSw); go_simp; with_reducible rfl)); exact hH)
        try simp only [Act.put, List.getElem_toArray, List.getElem_cons_succ, List.getElem_cons_zero, List.setIfInBounds_toArray, List.set_cons_zero, List.set_cons_succ]
        first | (refine wpAnyH_take (i := 4) (v := undef) rfl ?_ ?_ ?_ (fun _ _ _ h => h) ?_ ?_ ?_; kernel_rfl; kernel_rfl; kernel_rfl; exact Or.inr ⟨by rfl, rfl⟩; exact hH) | (refine wpAnyH_take (i := 4) (v := ?_) rfl ?_ ?_ ?_ (fun _ _ _ h => h) ?_ ?_ ?_; rotate_left; kernel_rfl; kernel_rfl; kernel_rfl; (focus (refine Or.inl ⟨by rfl, ?_⟩; intro w' hSw; (try dsimp only at hSw); go_simp)); exact hH) | (refine wpAnyH_take (i := 4) (v := ?_) rfl ?_ ?_ ?_ (fun _ _ _ h => h) ?_ ?_ ?_; rotate_left; kernel_rfl; kernel_rfl; kernel_rfl; (focus (refine Or.inl ⟨by rfl, ?_⟩; intro w' hSw; (try dsimp only at hSw); go_simp; with_reducible rfl)); exact hH)
        try simp only [Act.put, List.getElem_toArray, List.getElem_cons_succ, List.getElem_cons_zero, List.setIfInBounds_toArray, List.set_cons_zero, List.set_cons_succ]
        first | (refine wpAnyH_take (i := 5) (v := undef) rfl ?_ ?_ ?_ (fun _ _ _ h => h) ?_ ?_ ?_; kernel_rfl; kernel_rfl; kernel_rfl; exact Or.inr ⟨by rfl, rfl⟩; exact hH) | (refine wpAnyH_take (i := 5) (v := ?_) rfl ?_ ?_ ?_ (fun _ _ _ h => h) ?_ ?_ ?_; rotate_left; kernel_rfl; kernel_rfl; kernel_rfl; (focus (refine Or.inl ⟨by rfl, ?_⟩; intro w' hSw; (try dsimp only at hSw); go_simp)); exact hH) | (refine wpAnyH_take (i := 5) (v := ?_) rfl ?_ ?_ ?_ (fun _ _ _ h => h) ?_ ?_ ?_; rotate_left; kernel_rfl; kernel_rfl; kernel_rfl; (focus (refine Or.inl ⟨by rfl, ?_⟩; intro w' hSw; (try dsimp only at hSw); go_simp; with_reducible rfl)); exact hH)
        try simp only [Act.put, List.getElem_toArray, List.getElem_cons_succ, List.getElem_cons_zero, List.setIfInBounds_toArray, List.set_cons_zero, List.set_cons_succ]
        refine wpAnyH_ready (rs := [6, 10]) (by kernel_rfl) (by simp) ?_
        refine (AllReadyH.cons rfl (fun K hK => ?_) (AllReadyH.cons rfl (fun K hK => ?_) AllReadyH.nil))
        · skip
          go_simp
          with_reducible refine (DX.out _ ((HRA3.out.less (by omega)).next hH.2) ((HRB3.out.less (by omega)).next hH.2)).mono ?_
          rintro e w13 ⟨rfl, hb13'⟩
          have hb13 : Below (wq.heap.size) wq w13 := below_next hH.2 hb13'
          try go_wp2_with fail
          refine hK.out _ _ (KE.out _ hb13) (fun hH13 => ?_)
          clear hK K hH
          have hH := hH13
          clear hH13
          try simp only [Act.put, List.getElem_toArray, List.getElem_cons_succ, List.getElem_cons_zero, List.setIfInBounds_toArray, List.set_cons_zero, List.set_cons_succ]
          first | (refine wpAnyH_take (i := 7) (v := undef) rfl ?_ ?_ ?_ (fun _ _ _ h => h) ?_ ?_ ?_; kernel_rfl; kernel_rfl; kernel_rfl; exact Or.inr ⟨by rfl, rfl⟩; exact hH) | (refine wpAnyH_take (i := 7) (v := ?_) rfl ?_ ?_ ?_ (fun _ _ _ h => h) ?_ ?_ ?_; rotate_left; kernel_rfl; kernel_rfl; kernel_rfl; (focus (refine Or.inl ⟨by rfl, ?_⟩; intro w' hSw; (try dsimp only at hSw); go_simp)); exact hH) | (refine wpAnyH_take (i := 7) (v := ?_) rfl ?_ ?_ ?_ (fun _ _ _ h => h) ?_ ?_ ?_; rotate_left; kernel_rfl; kernel_rfl; kernel_rfl; (focus (refine Or.inl ⟨by rfl, ?_⟩; intro w' hSw; (try dsimp only at hSw); go_simp; with_reducible rfl)); exact hH)
          try simp only [Act.put, List.getElem_toArray, List.getElem_cons_succ, List.getElem_cons_zero, List.setIfInBounds_toArray, List.set_cons_zero, List.set_cons_succ]
          first | (refine wpAnyH_take (i := 8) (v := undef) rfl ?_ ?_ ?_ (fun _ _ _ h => h) ?_ ?_ ?_; kernel_rfl; kernel_rfl; kernel_rfl; exact Or.inr ⟨by rfl, rfl⟩; exact hH) | (refine wpAnyH_take (i := 8) (v := ?_) rfl ?_ ?_ ?_ (fun _ _ _ h => h) ?_ ?_ ?_; rotate_left; kernel_rfl; kernel_rfl; kernel_rfl; (focus (refine Or.inl ⟨by rfl, ?_⟩; intro w' hSw; (try dsimp only at hSw); go_simp)); exact hH) | (refine wpAnyH_take (i := 8) (v := ?_) rfl ?_ ?_ ?_ (fun _ _ _ h => h) ?_ ?_ ?_; rotate_left; kernel_rfl; kernel_rfl; kernel_rfl; (focus (refine Or.inl ⟨by rfl, ?_⟩; intro w' hSw; (try dsimp only at hSw); go_simp; with_reducible rfl)); exact hH)
          try simp only [Act.put, List.getElem_toArray, List.getElem_cons_succ, List.getElem_cons_zero, List.setIfInBounds_toArray, List.set_cons_zero, List.set_cons_succ]
          first | (refine wpAnyH_take (i := 9) (v := undef) rfl ?_ ?_ ?_ (fun _ _ _ h => h) ?_ ?_ ?_; kernel_rfl; kernel_rfl; kernel_rfl; exact Or.inr ⟨by rfl, rfl⟩; exact hH) | (refine wpAnyH_take (i := 9) (v := ?_) rfl ?_ ?_ ?_ (fun _ _ _ h => h) ?_ ?_ ?_; rotate_left; kernel_rfl; kernel_rfl; kernel_rfl; (focus (refine Or.inl ⟨by rfl, ?_⟩; intro w' hSw; (try dsimp only at hSw); go_simp)); exact hH) | (refine wpAnyH_take (i := 9) (v := ?_) rfl ?_ ?_ ?_ (fun _ _ _ h => h) ?_ ?_ ?_; rotate_left; kernel_rfl; kernel_rfl; kernel_rfl; (focus (refine Or.inl ⟨by rfl, ?_⟩; intro w' hSw; (try dsimp only at hSw); go_simp; with_reducible rfl)); exact hH)
          try simp only [Act.put, List.getElem_toArray, List.getElem_cons_succ, List.getElem_cons_zero, List.setIfInBounds_toArray, List.set_cons_zero, List.set_cons_succ]
          refine wpAnyH_ready (rs := [10]) (by kernel_rfl) (by simp) ?_
          refine (AllReadyH.cons rfl (fun K hK => ?_) AllReadyH.nil)
          go_simp
          have QXb14 : Blk (w13.alloc (.cells #[.int .u64 0, .int .u64 0] 25)) (w13.heap.size) 25 #[.int .u64 0, .int .u64 0] := Blk.new_at (by simp)
          have QGQX : wq.heap.size ≤ w13.heap.size := Nat.le_trans (Below.size (hb13)) (Nat.le_of_eq (by simp))
          have hb14 := Below.alloc (hb13) (Below.size (hb13)) (.cells #[.int .u64 0, .int .u64 0] 25)
          refine hK.out _ _ (KE.out _ hb14) (fun hH14 => ?_)
          clear hK K hH
          have hH := hH14
          clear hH14
          try simp only [Act.put, List.getElem_toArray, List.getElem_cons_succ, List.getElem_cons_zero, List.setIfInBounds_toArray, List.set_cons_zero, List.set_cons_succ]
          refine wpAnyH_ready (rs := [11]) (by kernel_rfl) (by simp) ?_
          refine (AllReadyH.cons rfl (fun K hK => ?_) AllReadyH.nil)
          go_simp
          have QXb15 : Blk (w13.alloc (.cells #[.int .u64 x1, .int .u64 x2] 25)) (w13.heap.size) 25 #[.int .u64 x1, .int .u64 x2] := Blk.new_at (by simp)
          have hb15 := Below.alloc (hb13) (Below.size (hb13)) (.cells #[.int .u64 x1, .int .u64 x2] 25)
          refine hK.out _ _ (KE.out _ hb15) (fun hH15 => ?_)
          clear hK K hH
          have hH := hH15
          clear hH15
          try simp only [Act.put, List.getElem_toArray, List.getElem_cons_succ, List.getElem_cons_zero, List.setIfInBounds_toArray, List.set_cons_zero, List.set_cons_succ]
          first | (refine wpAnyH_take (i := 12) (v := undef) rfl ?_ ?_ ?_ (fun _ _ _ h => h) ?_ ?_ ?_; kernel_rfl; kernel_rfl; kernel_rfl; exact Or.inr ⟨by rfl, rfl⟩; exact hH) | (refine wpAnyH_take (i := 12) (v := ?_) rfl ?_ ?_ ?_ (fun _ _ _ h => h) ?_ ?_ ?_; rotate_left; kernel_rfl; kernel_rfl; kernel_rfl; (focus (refine Or.inl ⟨by rfl, ?_⟩; intro w' hSw; (try dsimp only at hSw); go_simp)); exact hH) | (refine wpAnyH_take (i := 12) (v := ?_) rfl ?_ ?_ ?_ (fun _ _ _ h => h) ?_ ?_ ?_; rotate_left; kernel_rfl; kernel_rfl; kernel_rfl; (focus (refine Or.inl ⟨by rfl, ?_⟩; intro w' hSw; (try dsimp only at hSw); go_simp; with_reducible rfl)); exact hH)
          try simp only [Act.put, List.getElem_toArray, List.getElem_cons_succ, List.getElem_cons_zero, List.setIfInBounds_toArray, List.set_cons_zero, List.set_cons_succ]
          refine wpAnyH_done (by kernel_rfl) ?_ _
          refine NoPanic.normal ?_
          go_wp2_with fail
          go_meet
          exact ⟨_, rfl, rfl, QXb15, hb15⟩
        · skip
          go_simp
          have QXb16 : Blk (wq.drew.alloc (.cells #[.int .u64 0, .int .u64 0] 25)) (wq.heap.size) 25 #[.int .u64 0, .int .u64 0] := Blk.new_at (by simp)
          have QGQX : wq.heap.size ≤ wq.heap.size := Nat.le_trans (Below.size (hbR)) (Nat.le_of_eq (by simp))
          have hb16 := Below.alloc (hbR) (Below.size (hbR)) (.cells #[.int .u64 0, .int .u64 0] 25)
          refine hK.out _ _ (KE.out _ hb16) (fun hH16 => ?_)
          clear hK K hH
          have hH := hH16
          clear hH16
          try simp only [Act.put, List.getElem_toArray, List.getElem_cons_succ, List.getElem_cons_zero, List.setIfInBounds_toArray, List.set_cons_zero, List.set_cons_succ]
          refine wpAnyH_ready (rs := [6]) (by kernel_rfl) (by simp) ?_
          refine (AllReadyH.cons rfl (fun K hK => ?_) AllReadyH.nil)
          go_simp
          with_reducible refine (DX.out _ ((HRA3.out.less (by omega)).next hH.2) ((HRB3.out.less (by omega)).next hH.2)).mono ?_
          rintro e w17 ⟨rfl, hb17'⟩
          have hb17 : Below (wq.heap.size) wq w17 := below_next hH.2 hb17'
          try go_wp2_with fail
          have QXb17 := Blk.next QXb16 hb17'
          have QXc170 : World.cell? w17 ⟨wq.heap.size, 0, none⟩ = some (.int .u64 0) := Blk.get QXb17 0 rfl
          have QXf170 : World.frozen? w17 ⟨wq.heap.size, 0, none⟩ = false := Blk.frozen QXb17 0
          have QXc171 : World.cell? w17 ⟨wq.heap.size, 1, none⟩ = some (.int .u64 0) := Blk.get QXb17 1 rfl
          have QXf171 : World.frozen? w17 ⟨wq.heap.size, 1, none⟩ = false := Blk.frozen QXb17 1
          have QXn17 := Blk.lt QXb17
          refine hK.out _ _ (KE.out _ hb17) (fun hH17 => ?_)
          clear hK K hH
          have hH := hH17
          clear hH17
          try simp only [Act.put, List.getElem_toArray, List.getElem_cons_succ, List.getElem_cons_zero, List.setIfInBounds_toArray, List.set_cons_zero, List.set_cons_succ]
          first | (refine wpAnyH_take (i := 7) (v := undef) rfl ?_ ?_ ?_ (fun _ _ _ h => h) ?_ ?_ ?_; kernel_rfl; kernel_rfl; kernel_rfl; exact Or.inr ⟨by rfl, rfl⟩; exact hH) | (refine wpAnyH_take (i := 7) (v := ?_) rfl ?_ ?_ ?_ (fun _ _ _ h => h) ?_ ?_ ?_; rotate_left; kernel_rfl; kernel_rfl; kernel_rfl; (focus (refine Or.inl ⟨by rfl, ?_⟩; intro w' hSw; (try dsimp only at hSw); go_simp)); exact hH) | (refine wpAnyH_take (i := 7) (v := ?_) rfl ?_ ?_ ?_ (fun _ _ _ h => h) ?_ ?_ ?_; rotate_left; kernel_rfl; kernel_rfl; kernel_rfl; (focus (refine Or.inl ⟨by rfl, ?_⟩; intro w' hSw; (try dsimp only at hSw); go_simp; with_reducible rfl)); exact hH)
          try simp only [Act.put, List.getElem_toArray, List.getElem_cons_succ, List.getElem_cons_zero, List.setIfInBounds_toArray, List.set_cons_zero, List.set_cons_succ]
          first | (refine wpAnyH_take (i := 8) (v := undef) rfl ?_ ?_ ?_ (fun _ _ _ h => h) ?_ ?_ ?_; kernel_rfl; kernel_rfl; kernel_rfl; exact Or.inr ⟨by rfl, rfl⟩; exact hH) | (refine wpAnyH_take (i := 8) (v := ?_) rfl ?_ ?_ ?_ (fun _ _ _ h => h) ?_ ?_ ?_; rotate_left; kernel_rfl; kernel_rfl; kernel_rfl; (focus (refine Or.inl ⟨by rfl, ?_⟩; intro w' hSw; (try dsimp only at hSw); go_simp)); exact hH) | (refine wpAnyH_take (i := 8) (v := ?_) rfl ?_ ?_ ?_ (fun _ _ _ h => h) ?_ ?_ ?_; rotate_left; kernel_rfl; kernel_rfl; kernel_rfl; (focus (refine Or.inl ⟨by rfl, ?_⟩; intro w' hSw; (try dsimp only at hSw); go_simp; with_reducible rfl)); exact hH)
          try simp only [Act.put, List.getElem_toArray, List.getElem_cons_succ, List.getElem_cons_zero, List.setIfInBounds_toArray, List.set_cons_zero, List.set_cons_succ]
          first | (refine wpAnyH_take (i := 9) (v := undef) rfl ?_ ?_ ?_ (fun _ _ _ h => h) ?_ ?_ ?_; kernel_rfl; kernel_rfl; kernel_rfl; exact Or.inr ⟨by rfl, rfl⟩; exact hH) | (refine wpAnyH_take (i := 9) (v := ?_) rfl ?_ ?_ ?_ (fun _ _ _ h => h) ?_ ?_ ?_; rotate_left; kernel_rfl; kernel_rfl; kernel_rfl; (focus (refine Or.inl ⟨by rfl, ?_⟩; intro w' hSw; (try dsimp only at hSw); go_simp)); exact hH) | (refine wpAnyH_take (i := 9) (v := ?_) rfl ?_ ?_ ?_ (fun _ _ _ h => h) ?_ ?_ ?_; rotate_left; kernel_rfl; kernel_rfl; kernel_rfl; (focus (refine Or.inl ⟨by rfl, ?_⟩; intro w' hSw; (try dsimp only at hSw); go_simp; with_reducible rfl)); exact hH)
          try simp only [Act.put, List.getElem_toArray, List.getElem_cons_succ, List.getElem_cons_zero, List.setIfInBounds_toArray, List.set_cons_zero, List.set_cons_succ]
          refine wpAnyH_ready (rs := [11]) (by kernel_rfl) (by simp) ?_
          refine (AllReadyH.cons rfl (fun K hK => ?_) AllReadyH.nil)
          go_simp
          have QXb18 := (Blk.put (Blk.put QXb17 0 (.int .u64 x1)) 1 (.int .u64 x2))
          have hb18 : Below (wq.heap.size) wq _ := (Below.setCell (p := ⟨wq.heap.size, 1, none⟩) (Below.setCell (p := ⟨wq.heap.size, 0, none⟩) hb17 (by show _ ≤ wq.heap.size; first | exact Nat.le_refl _ | exact hH.2.size | (simp only [World.size_alloc, World.size_drew] at *; omega)) (.int .u64 x1)) (by show _ ≤ wq.heap.size; first | exact Nat.le_refl _ | exact hH.2.size | (simp only [World.size_alloc, World.size_drew] at *; omega)) (.int .u64 x2))
          refine hK.out _ _ (KE.out _ hb18) (fun hH18 => ?_)
          clear hK K hH
          have hH := hH18
          clear hH18
          try simp only [Act.put, List.getElem_toArray, List.getElem_cons_succ, List.getElem_cons_zero, List.setIfInBounds_toArray, List.set_cons_zero, List.set_cons_succ]
          first | (refine wpAnyH_take (i := 12) (v := undef) rfl ?_ ?_ ?_ (fun _ _ _ h => h) ?_ ?_ ?_; kernel_rfl; kernel_rfl; kernel_rfl; exact Or.inr ⟨by rfl, rfl⟩; exact hH) | (refine wpAnyH_take (i := 12) (v := ?_) rfl ?_ ?_ ?_ (fun _ _ _ h => h) ?_ ?_ ?_; rotate_left; kernel_rfl; kernel_rfl; kernel_rfl; (focus (refine Or.inl ⟨by rfl, ?_⟩; intro w' hSw; (try dsimp only at hSw); go_simp)); exact hH) | (refine wpAnyH_take (i := 12) (v := ?_) rfl ?_ ?_ ?_ (fun _ _ _ h => h) ?_ ?_ ?_; rotate_left; kernel_rfl; kernel_rfl; kernel_rfl; (focus (refine Or.inl ⟨by rfl, ?_⟩; intro w' hSw; (try dsimp only at hSw); go_simp; with_reducible rfl)); exact hH)
          try simp only [Act.put, List.getElem_toArray, List.getElem_cons_succ, List.getElem_cons_zero, List.setIfInBounds_toArray, List.set_cons_zero, List.set_cons_succ]
          refine wpAnyH_done (by kernel_rfl) ?_ _
          refine NoPanic.normal ?_
          go_wp2_with fail
          go_meet
          exact ⟨_, rfl, rfl, QXb18, hb18⟩
      case rest =>
        obtain ⟨qx, rfl, rfl, BX, hbx⟩ := hcut
        obtain ⟨wa, rfl⟩ : ∃ x : World, x = wc := ⟨_, rfl⟩
        have HS2 := Lib.hid (HS.out.next hbx)
        have HT2 := Lib.hid (HT.out.next hbx)
        have HX2 := Lib.hid BX
        have HB2 := Lib.hid (HB13.out.trans (hbx.mono HB13.out.size))
        have HRA4 := Lib.hid (HRA3.out.next hbx)
        have HRB4 := Lib.hid (HRB3.out.next hbx)
        clear HS HT HB13 HRA3 HRB3 hbx BX KE
        go_upto_region 15 with (fail)
        have KY : Hid (∀ w', Below (wa.heap.size) wa w' → (True) ∧ Below (wa.heap.size) wa w') := fun w' hb => ⟨trivial, hb⟩
        go_cut [18, 19] (fun xv ev wc => ∃ qy, xv = .pointer (some ⟨qy, 0, none⟩) ∧ ev = .int .i64 y3 ∧ Blk wc qy 25 #[.int .u64 y1, .int .u64 y2] ∧ Below wa.heap.size wa wc)
        case first =>
          clear HS2 HT2 HX2 HB2 HR HB DS DB DO DX PL PT AW
          have XA := HRA4.out.shift (j := j) (c := cA) kk9 (by omega) (by omega)
          have XB := HRB4.out.shift (j := j) (c := cB) kk9 (by omega) (by omega)
          obtain ⟨A', hA'⟩ : ∃ z, (if cA = k then A else Option.map (fun x => x.add k) A) = z := ⟨_, rfl⟩
          obtain ⟨B', hB'⟩ : ∃ z, (if cB = k then B else Option.map (fun x => x.add k) B) = z := ⟨_, rfl⟩
          rw [hA'] at XA
          rw [hB'] at XB
          have HXA := Lib.hid XA
          have HXB := Lib.hid XB
          clear XA XB
          refine wp_region_noPanic ?_
          refine wp_region_held_drew (S := fun w' => (True) ∧ Below (wa.heap.size) wa w') (by kernel_rfl) (KY.out _ (below_of_drew ((Below.refl wa.heap.size wa)))) (fun hH => ?_)
          have hbR := below_of_drew ((Below.refl wa.heap.size wa))
          first | (refine wpAnyH_take (i := 0) (v := undef) rfl ?_ ?_ ?_ (fun _ _ _ h => h) ?_ ?_ ?_; kernel_rfl; kernel_rfl; kernel_rfl; exact Or.inr ⟨by rfl, rfl⟩; exact hH) | (refine wpAnyH_take (i := 0) (v := ?_) rfl ?_ ?_ ?_ (fun _ _ _ h => h) ?_ ?_ ?_; rotate_left; kernel_rfl; kernel_rfl; kernel_rfl; (focus (refine Or.inl ⟨by rfl, ?_⟩; intro w' hSw; (try dsimp only at hSw); go_simp)); exact hH) | (refine wpAnyH_take (i := 0) (v := ?_) rfl ?_ ?_ ?_ (fun _ _ _ h => h) ?_ ?_ ?_; rotate_left; kernel_rfl; kernel_rfl; kernel_rfl; (focus (refine Or.inl ⟨by rfl, ?_⟩; intro w' hSw; (try dsimp only at hSw); go_simp; with_reducible rfl)); exact hH)
          try simp only [Act.put, List.getElem_toArray, List.getElem_cons_succ, List.getElem_cons_zero, List.setIfInBounds_toArray, List.set_cons_zero, List.set_cons_succ]
          first | (refine wpAnyH_take (i := 1) (v := undef) rfl ?_ ?_ ?_ (fun _ _ _ h => h) ?_ ?_ ?_; kernel_rfl; kernel_rfl; kernel_rfl; exact Or.inr ⟨by rfl, rfl⟩; exact hH) | (refine wpAnyH_take (i := 1) (v := ?_) rfl ?_ ?_ ?_ (fun _ _ _ h => h) ?_ ?_ ?_; rotate_left; kernel_rfl; kernel_rfl; kernel_rfl; (focus (refine Or.inl ⟨by rfl, ?_⟩; intro w' hSw; (try dsimp only at hSw); go_simp)); exact hH) | (refine wpAnyH_take (i := 1) (v := ?_) rfl ?_ ?_ ?_ (fun _ _ _ h => h) ?_ ?_ ?_; rotate_left; kernel_rfl; kernel_rfl; kernel_rfl; (focus (refine Or.inl ⟨by rfl, ?_⟩; intro w' hSw; (try dsimp only at hSw); go_simp; with_reducible rfl)); exact hH)
          try simp only [Act.put, List.getElem_toArray, List.getElem_cons_succ, List.getElem_cons_zero, List.setIfInBounds_toArray, List.set_cons_zero, List.set_cons_succ]
          first | (refine wpAnyH_take (i := 2) (v := undef) rfl ?_ ?_ ?_ (fun _ _ _ h => h) ?_ ?_ ?_; kernel_rfl; kernel_rfl; kernel_rfl; exact Or.inr ⟨by rfl, rfl⟩; exact hH) | (refine wpAnyH_take (i := 2) (v := ?_) rfl ?_ ?_ ?_ (fun _ _ _ h => h) ?_ ?_ ?_; rotate_left; kernel_rfl; kernel_rfl; kernel_rfl; (focus (refine Or.inl ⟨by rfl, ?_⟩; intro w' hSw; (try dsimp only at hSw); go_simp)); exact hH) | (refine wpAnyH_take (i := 2) (v := ?_) rfl ?_ ?_ ?_ (fun _ _ _ h => h) ?_ ?_ ?_; rotate_left; kernel_rfl; kernel_rfl; kernel_rfl; (focus (refine Or.inl ⟨by rfl, ?_⟩; intro w' hSw; (try dsimp only at hSw); go_simp; with_reducible rfl)); exact hH)
          try simp only [Act.put, List.getElem_toArray, List.getElem_cons_succ, List.getElem_cons_zero, List.setIfInBounds_toArray, List.set_cons_zero, List.set_cons_succ]
          first | (refine wpAnyH_take (i := 3) (v := undef) rfl ?_ ?_ ?_ (fun _ _ _ h => h) ?_ ?_ ?_; kernel_rfl; kernel_rfl; kernel_rfl; exact Or.inr ⟨by rfl, rfl⟩; exact hH) | (refine wpAnyH_take (i := 3) (v := ?_) rfl ?_ ?_ ?_ (fun _ _ _ h => h) ?_ ?_ ?_; rotate_left; kernel_rfl; kernel_rfl; kernel_rfl; (focus (refine Or.inl ⟨by rfl, ?_⟩; intro w' hSw; (try dsimp only at hSw); go_simp)); exact hH) | (refine wpAnyH_take (i := 3) (v := ?_) rfl ?_ ?_ ?_ (fun _ _ _ h => h) ?_ ?_ ?_; rotate_left; kernel_rfl; kernel_rfl; kernel_rfl; (focus (refine Or.inl ⟨by rfl, ?_⟩; intro w' hSw; (try dsimp only at hSw); go_simp; with_reducible rfl)); exact hH)
          try simp only [Act.put, List.getElem_toArray, List.getElem_cons_succ, List.getElem_cons_zero, List.setIfInBounds_toArray, List.set_cons_zero, List.set_cons_succ]
          first | (refine wpAnyH_take (i := 4) (v := undef) rfl ?_ ?_ ?_ (fun _ _ _ h => h) ?_ ?_ ?_; kernel_rfl; kernel_rfl; kernel_rfl; exact Or.inr ⟨by rfl, rfl⟩; exact hH) | (refine wpAnyH_take (i := 4) (v := ?_) rfl ?_ ?_ ?_ (fun _ _ _ h => h) ?_ ?_ ?_; rotate_left; kernel_rfl; kernel_rfl; kernel_rfl; (focus (refine Or.inl ⟨by rfl, ?_⟩; intro w' hSw; (try dsimp only at hSw); go_simp)); exact hH) | (refine wpAnyH_take (i := 4) (v := ?_) rfl ?_ ?_ ?_ (fun _ _ _ h => h) ?_ ?_ ?_; rotate_left; kernel_rfl; kernel_rfl; kernel_rfl; (focus (refine Or.inl ⟨by rfl, ?_⟩; intro w' hSw; (try dsimp only at hSw); go_simp; with_reducible rfl)); exact hH)
          try simp only [Act.put, List.getElem_toArray, List.getElem_cons_succ, List.getElem_cons_zero, List.setIfInBounds_toArray, List.set_cons_zero, List.set_cons_succ]
          first | (refine wpAnyH_take (i := 5) (v := undef) rfl ?_ ?_ ?_ (fun _ _ _ h => h) ?_ ?_ ?_; kernel_rfl; kernel_rfl; kernel_rfl; exact Or.inr ⟨by rfl, rfl⟩; exact hH) | (refine wpAnyH_take (i := 5) (v := ?_) rfl ?_ ?_ ?_ (fun _ _ _ h => h) ?_ ?_ ?_; rotate_left; kernel_rfl; kernel_rfl; kernel_rfl; (focus (refine Or.inl ⟨by rfl, ?_⟩; intro w' hSw; (try dsimp only at hSw); go_simp)); exact hH) | (refine wpAnyH_take (i := 5) (v := ?_) rfl ?_ ?_ ?_ (fun _ _ _ h => h) ?_ ?_ ?_; rotate_left; kernel_rfl; kernel_rfl; kernel_rfl; (focus (refine Or.inl ⟨by rfl, ?_⟩; intro w' hSw; (try dsimp only at hSw); go_simp; with_reducible rfl)); exact hH)
          try simp only [Act.put, List.getElem_toArray, List.getElem_cons_succ, List.getElem_cons_zero, List.setIfInBounds_toArray, List.set_cons_zero, List.set_cons_succ]
          first | (refine wpAnyH_take (i := 6) (v := undef) rfl ?_ ?_ ?_ (fun _ _ _ h => h) ?_ ?_ ?_; kernel_rfl; kernel_rfl; kernel_rfl; exact Or.inr ⟨by rfl, rfl⟩; exact hH) | (refine wpAnyH_take (i := 6) (v := ?_) rfl ?_ ?_ ?_ (fun _ _ _ h => h) ?_ ?_ ?_; rotate_left; kernel_rfl; kernel_rfl; kernel_rfl; (focus (refine Or.inl ⟨by rfl, ?_⟩; intro w' hSw; (try dsimp only at hSw); go_simp)); exact hH) | (refine wpAnyH_take (i := 6) (v := ?_) rfl ?_ ?_ ?_ (fun _ _ _ h => h) ?_ ?_ ?_; rotate_left; kernel_rfl; kernel_rfl; kernel_rfl; (focus (refine Or.inl ⟨by rfl, ?_⟩; intro w' hSw; (try dsimp only at hSw); go_simp; with_reducible rfl)); exact hH)
          try simp only [Act.put, List.getElem_toArray, List.getElem_cons_succ, List.getElem_cons_zero, List.setIfInBounds_toArray, List.set_cons_zero, List.set_cons_succ]
          first | (refine wpAnyH_take (i := 7) (v := undef) rfl ?_ ?_ ?_ (fun _ _ _ h => h) ?_ ?_ ?_; kernel_rfl; kernel_rfl; kernel_rfl; exact Or.inr ⟨by rfl, rfl⟩; exact hH) | (refine wpAnyH_take (i := 7) (v := ?_) rfl ?_ ?_ ?_ (fun _ _ _ h => h) ?_ ?_ ?_; rotate_left; kernel_rfl; kernel_rfl; kernel_rfl; (focus (refine Or.inl ⟨by rfl, ?_⟩; intro w' hSw; (try dsimp only at hSw); go_simp)); exact hH) | (refine wpAnyH_take (i := 7) (v := ?_) rfl ?_ ?_ ?_ (fun _ _ _ h => h) ?_ ?_ ?_; rotate_left; kernel_rfl; kernel_rfl; kernel_rfl; (focus (refine Or.inl ⟨by rfl, ?_⟩; intro w' hSw; (try dsimp only at hSw); go_simp; with_reducible rfl)); exact hH)
          try simp only [Act.put, List.getElem_toArray, List.getElem_cons_succ, List.getElem_cons_zero, List.setIfInBounds_toArray, List.set_cons_zero, List.set_cons_succ]
          refine wpAnyH_ready (rs := [8, 12]) (by kernel_rfl) (by simp) ?_
          refine (AllReadyH.cons rfl (fun K hK => ?_) (AllReadyH.cons rfl (fun K hK => ?_) AllReadyH.nil))
          · skip
            go_simp
            with_reducible refine (DY.out _ _ _ _ _ (HXA.out.next hH.2) (HXB.out.next hH.2)).mono ?_
            rintro e w19 ⟨rfl, hb19'⟩
            have hb19 : Below (wa.heap.size) wa w19 := below_next hH.2 hb19'
            try go_wp2_with fail
            refine hK.out _ _ (KY.out _ hb19) (fun hH19 => ?_)
            clear hK K hH
            have hH := hH19
            clear hH19
            try simp only [Act.put, List.getElem_toArray, List.getElem_cons_succ, List.getElem_cons_zero, List.setIfInBounds_toArray, List.set_cons_zero, List.set_cons_succ]
            first | (refine wpAnyH_take (i := 9) (v := undef) rfl ?_ ?_ ?_ (fun _ _ _ h => h) ?_ ?_ ?_; kernel_rfl; kernel_rfl; kernel_rfl; exact Or.inr ⟨by rfl, rfl⟩; exact hH) | (refine wpAnyH_take (i := 9) (v := ?_) rfl ?_ ?_ ?_ (fun _ _ _ h => h) ?_ ?_ ?_; rotate_left; kernel_rfl; kernel_rfl; kernel_rfl; (focus (refine Or.inl ⟨by rfl, ?_⟩; intro w' hSw; (try dsimp only at hSw); go_simp)); exact hH) | (refine wpAnyH_take (i := 9) (v := ?_) rfl ?_ ?_ ?_ (fun _ _ _ h => h) ?_ ?_ ?_; rotate_left; kernel_rfl; kernel_rfl; kernel_rfl; (focus (refine Or.inl ⟨by rfl, ?_⟩; intro w' hSw; (try dsimp only at hSw); go_simp; with_reducible rfl)); exact hH)
            try simp only [Act.put, List.getElem_toArray, List.getElem_cons_succ, List.getElem_cons_zero, List.setIfInBounds_toArray, List.set_cons_zero, List.set_cons_succ]
            first | (refine wpAnyH_take (i := 10) (v := undef) rfl ?_ ?_ ?_ (fun _ _ _ h => h) ?_ ?_ ?_; kernel_rfl; kernel_rfl; kernel_rfl; exact Or.inr ⟨by rfl, rfl⟩; exact hH) | (refine wpAnyH_take (i := 10) (v := ?_) rfl ?_ ?_ ?_ (fun _ _ _ h => h) ?_ ?_ ?_; rotate_left; kernel_rfl; kernel_rfl; kernel_rfl; (focus (refine Or.inl ⟨by rfl, ?_⟩; intro w' hSw; (try dsimp only at hSw); go_simp)); exact hH) | (refine wpAnyH_take (i := 10) (v := ?_) rfl ?_ ?_ ?_ (fun _ _ _ h => h) ?_ ?_ ?_; rotate_left; kernel_rfl; kernel_rfl; kernel_rfl; (focus (refine Or.inl ⟨by rfl, ?_⟩; intro w' hSw; (try dsimp only at hSw); go_simp; with_reducible rfl)); exact hH)
            try simp only [Act.put, List.getElem_toArray, List.getElem_cons_succ, List.getElem_cons_zero, List.setIfInBounds_toArray, List.set_cons_zero, List.set_cons_succ]
            first | (refine wpAnyH_take (i := 11) (v := undef) rfl ?_ ?_ ?_ (fun _ _ _ h => h) ?_ ?_ ?_; kernel_rfl; kernel_rfl; kernel_rfl; exact Or.inr ⟨by rfl, rfl⟩; exact hH) | (refine wpAnyH_take (i := 11) (v := ?_) rfl ?_ ?_ ?_ (fun _ _ _ h => h) ?_ ?_ ?_; rotate_left; kernel_rfl; kernel_rfl; kernel_rfl; (focus (refine Or.inl ⟨by rfl, ?_⟩; intro w' hSw; (try dsimp only at hSw); go_simp)); exact hH) | (refine wpAnyH_take (i := 11) (v := ?_) rfl ?_ ?_ ?_ (fun _ _ _ h => h) ?_ ?_ ?_; rotate_left; kernel_rfl; kernel_rfl; kernel_rfl; (focus (refine Or.inl ⟨by rfl, ?_⟩; intro w' hSw; (try dsimp only at hSw); go_simp; with_reducible rfl)); exact hH)
            try simp only [Act.put, List.getElem_toArray, List.getElem_cons_succ, List.getElem_cons_zero, List.setIfInBounds_toArray, List.set_cons_zero, List.set_cons_succ]
            refine wpAnyH_ready (rs := [12]) (by kernel_rfl) (by simp) ?_
            refine (AllReadyH.cons rfl (fun K hK => ?_) AllReadyH.nil)
            go_simp
            have QYb20 : Blk (w19.alloc (.cells #[.int .u64 0, .int .u64 0] 25)) (w19.heap.size) 25 #[.int .u64 0, .int .u64 0] := Blk.new_at (by simp)
            have QGQY : wa.heap.size ≤ w19.heap.size := Nat.le_trans (Below.size (hb19)) (Nat.le_of_eq (by simp))
            have hb20 := Below.alloc (hb19) (Below.size (hb19)) (.cells #[.int .u64 0, .int .u64 0] 25)
            refine hK.out _ _ (KY.out _ hb20) (fun hH20 => ?_)
            clear hK K hH
            have hH := hH20
            clear hH20
            try simp only [Act.put, List.getElem_toArray, List.getElem_cons_succ, List.getElem_cons_zero, List.setIfInBounds_toArray, List.set_cons_zero, List.set_cons_succ]
            refine wpAnyH_ready (rs := [13]) (by kernel_rfl) (by simp) ?_
            refine (AllReadyH.cons rfl (fun K hK => ?_) AllReadyH.nil)
            go_simp
            have QYb21 : Blk (w19.alloc (.cells #[.int .u64 y1, .int .u64 y2] 25)) (w19.heap.size) 25 #[.int .u64 y1, .int .u64 y2] := Blk.new_at (by simp)
            have hb21 := Below.alloc (hb19) (Below.size (hb19)) (.cells #[.int .u64 y1, .int .u64 y2] 25)
            refine hK.out _ _ (KY.out _ hb21) (fun hH21 => ?_)
            clear hK K hH
            have hH := hH21
            clear hH21
            try simp only [Act.put, List.getElem_toArray, List.getElem_cons_succ, List.getElem_cons_zero, List.setIfInBounds_toArray, List.set_cons_zero, List.set_cons_succ]
            first | (refine wpAnyH_take (i := 14) (v := undef) rfl ?_ ?_ ?_ (fun _ _ _ h => h) ?_ ?_ ?_; kernel_rfl; kernel_rfl; kernel_rfl; exact Or.inr ⟨by rfl, rfl⟩; exact hH) | (refine wpAnyH_take (i := 14) (v := ?_) rfl ?_ ?_ ?_ (fun _ _ _ h => h) ?_ ?_ ?_; rotate_left; kernel_rfl; kernel_rfl; kernel_rfl; (focus (refine Or.inl ⟨by rfl, ?_⟩; intro w' hSw; (try dsimp only at hSw); go_simp)); exact hH) | (refine wpAnyH_take (i := 14) (v := ?_) rfl ?_ ?_ ?_ (fun _ _ _ h => h) ?_ ?_ ?_; rotate_left; kernel_rfl; kernel_rfl; kernel_rfl; (focus (refine Or.inl ⟨by rfl, ?_⟩; intro w' hSw; (try dsimp only at hSw); go_simp; with_reducible rfl)); exact hH)
            try simp only [Act.put, List.getElem_toArray, List.getElem_cons_succ, List.getElem_cons_zero, List.setIfInBounds_toArray, List.set_cons_zero, List.set_cons_succ]
            refine wpAnyH_done (by kernel_rfl) ?_ _
            refine NoPanic.normal ?_
            go_wp2_with fail
            go_meet
            exact ⟨_, rfl, rfl, QYb21, hb21⟩
          · skip
            go_simp
            have QYb22 : Blk (wa.drew.alloc (.cells #[.int .u64 0, .int .u64 0] 25)) (wa.heap.size) 25 #[.int .u64 0, .int .u64 0] := Blk.new_at (by simp)
            have QGQY : wa.heap.size ≤ wa.heap.size := Nat.le_trans (Below.size (hbR)) (Nat.le_of_eq (by simp))
            have hb22 := Below.alloc (hbR) (Below.size (hbR)) (.cells #[.int .u64 0, .int .u64 0] 25)
            refine hK.out _ _ (KY.out _ hb22) (fun hH22 => ?_)
            clear hK K hH
            have hH := hH22
            clear hH22
            try simp only [Act.put, List.getElem_toArray, List.getElem_cons_succ, List.getElem_cons_zero, List.setIfInBounds_toArray, List.set_cons_zero, List.set_cons_succ]
            refine wpAnyH_ready (rs := [8]) (by kernel_rfl) (by simp) ?_
            refine (AllReadyH.cons rfl (fun K hK => ?_) AllReadyH.nil)
            go_simp
            with_reducible refine (DY.out _ _ _ _ _ (HXA.out.next hH.2) (HXB.out.next hH.2)).mono ?_
            rintro e w23 ⟨rfl, hb23'⟩
            have hb23 : Below (wa.heap.size) wa w23 := below_next hH.2 hb23'
            try go_wp2_with fail
            have QYb23 := Blk.next QYb22 hb23'
            have QYc230 : World.cell? w23 ⟨wa.heap.size, 0, none⟩ = some (.int .u64 0) := Blk.get QYb23 0 rfl
            have QYf230 : World.frozen? w23 ⟨wa.heap.size, 0, none⟩ = false := Blk.frozen QYb23 0
            have QYc231 : World.cell? w23 ⟨wa.heap.size, 1, none⟩ = some (.int .u64 0) := Blk.get QYb23 1 rfl
            have QYf231 : World.frozen? w23 ⟨wa.heap.size, 1, none⟩ = false := Blk.frozen QYb23 1
            have QYn23 := Blk.lt QYb23
            refine hK.out _ _ (KY.out _ hb23) (fun hH23 => ?_)
            clear hK K hH
            have hH := hH23
            clear hH23
            try simp only [Act.put, List.getElem_toArray, List.getElem_cons_succ, List.getElem_cons_zero, List.setIfInBounds_toArray, List.set_cons_zero, List.set_cons_succ]
            first | (refine wpAnyH_take (i := 9) (v := undef) rfl ?_ ?_ ?_ (fun _ _ _ h => h) ?_ ?_ ?_; kernel_rfl; kernel_rfl; kernel_rfl; exact Or.inr ⟨by rfl, rfl⟩; exact hH) | (refine wpAnyH_take (i := 9) (v := ?_) rfl ?_ ?_ ?_ (fun _ _ _ h => h) ?_ ?_ ?_; rotate_left; kernel_rfl; kernel_rfl; kernel_rfl; (focus (refine Or.inl ⟨by rfl, ?_⟩; intro w' hSw; (try dsimp only at hSw); go_simp)); exact hH) | (refine wpAnyH_take (i := 9) (v := ?_) rfl ?_ ?_ ?_ (fun _ _ _ h => h) ?_ ?_ ?_; rotate_left; kernel_rfl; kernel_rfl; kernel_rfl; (focus (refine Or.inl ⟨by rfl, ?_⟩; intro w' hSw; (try dsimp only at hSw); go_simp; with_reducible rfl)); exact hH)
            try simp only [Act.put, List.getElem_toArray, List.getElem_cons_succ, List.getElem_cons_zero, List.setIfInBounds_toArray, List.set_cons_zero, List.set_cons_succ]
            first | (refine wpAnyH_take (i := 10) (v := undef) rfl ?_ ?_ ?_ (fun _ _ _ h => h) ?_ ?_ ?_; kernel_rfl; kernel_rfl; kernel_rfl; exact Or.inr ⟨by rfl, rfl⟩; exact hH) | (refine wpAnyH_take (i := 10) (v := ?_) rfl ?_ ?_ ?_ (fun _ _ _ h => h) ?_ ?_ ?_; rotate_left; kernel_rfl; kernel_rfl; kernel_rfl; (focus (refine Or.inl ⟨by rfl, ?_⟩; intro w' hSw; (try dsimp only at hSw); go_simp)); exact hH) | (refine wpAnyH_take (i := 10) (v := ?_) rfl ?_ ?_ ?_ (fun _ _ _ h => h) ?_ ?_ ?_; rotate_left; kernel_rfl; kernel_rfl; kernel_rfl; (focus (refine Or.inl ⟨by rfl, ?_⟩; intro w' hSw; (try dsimp only at hSw); go_simp; with_reducible rfl)); exact hH)
            try simp only [Act.put, List.getElem_toArray, List.getElem_cons_succ, List.getElem_cons_zero, List.setIfInBounds_toArray, List.set_cons_zero, List.set_cons_succ]
            first | (refine wpAnyH_take (i := 11) (v := undef) rfl ?_ ?_ ?_ (fun _ _ _ h => h) ?_ ?_ ?_; kernel_rfl; kernel_rfl; kernel_rfl; exact Or.inr ⟨by rfl, rfl⟩; exact hH) | (refine wpAnyH_take (i := 11) (v := ?_) rfl ?_ ?_ ?_ (fun _ _ _ h => h) ?_ ?_ ?_; rotate_left; kernel_rfl; kernel_rfl; kernel_rfl; (focus (refine Or.inl ⟨by rfl, ?_⟩; intro w' hSw; (try dsimp only at hSw); go_simp)); exact hH) | (refine wpAnyH_take (i := 11) (v := ?_) rfl ?_ ?_ ?_ (fun _ _ _ h => h) ?_ ?_ ?_; rotate_left; kernel_rfl; kernel_rfl; kernel_rfl; (focus (refine Or.inl ⟨by rfl, ?_⟩; intro w' hSw; (try dsimp only at hSw); go_simp; with_reducible rfl)); exact hH)
            try simp only [Act.put, List.getElem_toArray, List.getElem_cons_succ, List.getElem_cons_zero, List.setIfInBounds_toArray, List.set_cons_zero, List.set_cons_succ]
            refine wpAnyH_ready (rs := [13]) (by kernel_rfl) (by simp) ?_
            refine (AllReadyH.cons rfl (fun K hK => ?_) AllReadyH.nil)
            go_simp
            have QYb24 := (Blk.put (Blk.put QYb23 0 (.int .u64 y1)) 1 (.int .u64 y2))
            have hb24 : Below (wa.heap.size) wa _ := (Below.setCell (p := ⟨wa.heap.size, 1, none⟩) (Below.setCell (p := ⟨wa.heap.size, 0, none⟩) hb23 (by show _ ≤ wa.heap.size; first | exact Nat.le_refl _ | exact hH.2.size | (simp only [World.size_alloc, World.size_drew] at *; omega)) (.int .u64 y1)) (by show _ ≤ wa.heap.size; first | exact Nat.le_refl _ | exact hH.2.size | (simp only [World.size_alloc, World.size_drew] at *; omega)) (.int .u64 y2))
            refine hK.out _ _ (KY.out _ hb24) (fun hH24 => ?_)
            clear hK K hH
            have hH := hH24
            clear hH24
            try simp only [Act.put, List.getElem_toArray, List.getElem_cons_succ, List.getElem_cons_zero, List.setIfInBounds_toArray, List.set_cons_zero, List.set_cons_succ]
            first | (refine wpAnyH_take (i := 14) (v := undef) rfl ?_ ?_ ?_ (fun _ _ _ h => h) ?_ ?_ ?_; kernel_rfl; kernel_rfl; kernel_rfl; exact Or.inr ⟨by rfl, rfl⟩; exact hH) | (refine wpAnyH_take (i := 14) (v := ?_) rfl ?_ ?_ ?_ (fun _ _ _ h => h) ?_ ?_ ?_; rotate_left; kernel_rfl; kernel_rfl; kernel_rfl; (focus (refine Or.inl ⟨by rfl, ?_⟩; intro w' hSw; (try dsimp only at hSw); go_simp)); exact hH) | (refine wpAnyH_take (i := 14) (v := ?_) rfl ?_ ?_ ?_ (fun _ _ _ h => h) ?_ ?_ ?_; rotate_left; kernel_rfl; kernel_rfl; kernel_rfl; (focus (refine Or.inl ⟨by rfl, ?_⟩; intro w' hSw; (try dsimp only at hSw); go_simp; with_reducible rfl)); exact hH)
            try simp only [Act.put, List.getElem_toArray, List.getElem_cons_succ, List.getElem_cons_zero, List.setIfInBounds_toArray, List.set_cons_zero, List.set_cons_succ]
            refine wpAnyH_done (by kernel_rfl) ?_ _
            refine NoPanic.normal ?_
            go_wp2_with fail
            go_meet
            exact ⟨_, rfl, rfl, QYb24, hb24⟩
        case rest =>
          obtain ⟨qy, rfl, rfl, BY, hby⟩ := hcut
          obtain ⟨wb, rfl⟩ : ∃ x : World, x = wc := ⟨_, rfl⟩
          have HS3 := Lib.hid (HS2.out.next hby)
          have HT3 := Lib.hid (HT2.out.next hby)
          have HX3 := Lib.hid (HX2.out.next hby)
          have HB3 := Lib.hid (HB2.out.trans (hby.mono HB2.out.size))
          have HRA5 := Lib.hid (HRA4.out.next hby)
          have HRB5 := Lib.hid (HRB4.out.next hby)
          have HY3 := Lib.hid BY
          clear HS2 HT2 HX2 HB2 HRA4 HRB4 hby BY KY
          have B20 : Below wb.heap.size wb wb := Below.refl _ _
          have QSb : Blk wb (w11.heap.size) 25 #[.int .u64 s1, .int .u64 s2] := HS3.out
          have QSc0 : World.cell? wb ⟨w11.heap.size, 0, none⟩ = some (.int .u64 s1) := QSb.get 0 rfl
          have QSf0 := Blk.frozen QSb 0
          have QSc1 : World.cell? wb ⟨w11.heap.size, 1, none⟩ = some (.int .u64 s2) := QSb.get 1 rfl
          have QSf1 := Blk.frozen QSb 1
          have QSn := Blk.lt QSb
          have QTb : Blk wb (w12.heap.size) 25 #[.int .u64 s1, .int .u64 s2] := HT3.out
          have QTc0 : World.cell? wb ⟨w12.heap.size, 0, none⟩ = some (.int .u64 s1) := QTb.get 0 rfl
          have QTf0 := Blk.frozen QTb 0
          have QTc1 : World.cell? wb ⟨w12.heap.size, 1, none⟩ = some (.int .u64 s2) := QTb.get 1 rfl
          have QTf1 := Blk.frozen QTb 1
          have QTn := Blk.lt QTb
          have QXb : Blk wb (qx) 25 #[.int .u64 x1, .int .u64 x2] := HX3.out
          have QXc0 : World.cell? wb ⟨qx, 0, none⟩ = some (.int .u64 x1) := QXb.get 0 rfl
          have QXf0 := Blk.frozen QXb 0
          have QXc1 : World.cell? wb ⟨qx, 1, none⟩ = some (.int .u64 x2) := QXb.get 1 rfl
          have QXf1 := Blk.frozen QXb 1
          have QXn := Blk.lt QXb
          have QYb : Blk wb (qy) 25 #[.int .u64 y1, .int .u64 y2] := HY3.out
          have QYc0 : World.cell? wb ⟨qy, 0, none⟩ = some (.int .u64 y1) := QYb.get 0 rfl
          have QYf0 := Blk.frozen QYb 0
          have QYc1 : World.cell? wb ⟨qy, 1, none⟩ = some (.int .u64 y2) := QYb.get 1 rfl
          have QYf1 := Blk.frozen QYb 1
          have QYn := Blk.lt QYb
          clear HS3 HT3 HX3 HY3
          have HBW := Lib.hid (fun (W : World) (h : Below wb.heap.size wb W) => HB.out.trans ((HB3.out.trans (h.mono HB3.out.size)).mono HB.out.size))
          clear HB HB3 HR DS DB DX DY HK HIF HZ EFA EFB
          go_wp2_with fail
          with_reducible refine (PL.out _).mono ?_
          rintro e w21 ⟨rfl, hb21⟩
          have QSm : Blk w21 (w11.heap.size) 25 #[.int .u64 s1, .int .u64 s2] := Blk.next (by repeat (first | (with_reducible exact QSb) | (refine Blk.new_at ?_; simp only [World.size_alloc]; done) | (with_reducible refine Blk.alloc ?_ _) | (with_reducible refine Blk.drewN ?_ _))) hb21
          clear QSn QSb QSc0 QSf0 QSc1 QSf1
          have QSb := QSm
          clear QSm
          have QSc0 : World.cell? w21 ⟨w11.heap.size, 0, none⟩ = some (.int .u64 s1) := QSb.get 0 rfl
          have QSf0 := Blk.frozen QSb 0
          have QSc1 : World.cell? w21 ⟨w11.heap.size, 1, none⟩ = some (.int .u64 s2) := QSb.get 1 rfl
          have QSf1 := Blk.frozen QSb 1
          have QSn := Blk.lt QSb
          have QTm : Blk w21 (w12.heap.size) 25 #[.int .u64 s1, .int .u64 s2] := Blk.next (by repeat (first | (with_reducible exact QTb) | (refine Blk.new_at ?_; simp only [World.size_alloc]; done) | (with_reducible refine Blk.alloc ?_ _) | (with_reducible refine Blk.drewN ?_ _))) hb21
          clear QTn QTb QTc0 QTf0 QTc1 QTf1
          have QTb := QTm
          clear QTm
          have QTc0 : World.cell? w21 ⟨w12.heap.size, 0, none⟩ = some (.int .u64 s1) := QTb.get 0 rfl
          have QTf0 := Blk.frozen QTb 0
          have QTc1 : World.cell? w21 ⟨w12.heap.size, 1, none⟩ = some (.int .u64 s2) := QTb.get 1 rfl
          have QTf1 := Blk.frozen QTb 1
          have QTn := Blk.lt QTb
          have QXm : Blk w21 (qx) 25 #[.int .u64 x1, .int .u64 x2] := Blk.next (by repeat (first | (with_reducible exact QXb) | (refine Blk.new_at ?_; simp only [World.size_alloc]; done) | (with_reducible refine Blk.alloc ?_ _) | (with_reducible refine Blk.drewN ?_ _))) hb21
          clear QXn QXb QXc0 QXf0 QXc1 QXf1
          have QXb := QXm
          clear QXm
          have QXc0 : World.cell? w21 ⟨qx, 0, none⟩ = some (.int .u64 x1) := QXb.get 0 rfl
          have QXf0 := Blk.frozen QXb 0
          have QXc1 : World.cell? w21 ⟨qx, 1, none⟩ = some (.int .u64 x2) := QXb.get 1 rfl
          have QXf1 := Blk.frozen QXb 1
          have QXn := Blk.lt QXb
          have QYm : Blk w21 (qy) 25 #[.int .u64 y1, .int .u64 y2] := Blk.next (by repeat (first | (with_reducible exact QYb) | (refine Blk.new_at ?_; simp only [World.size_alloc]; done) | (with_reducible refine Blk.alloc ?_ _) | (with_reducible refine Blk.drewN ?_ _))) hb21
          clear QYn QYb QYc0 QYf0 QYc1 QYf1
          have QYb := QYm
          clear QYm
          have QYc0 : World.cell? w21 ⟨qy, 0, none⟩ = some (.int .u64 y1) := QYb.get 0 rfl
          have QYf0 := Blk.frozen QYb 0
          have QYc1 : World.cell? w21 ⟨qy, 1, none⟩ = some (.int .u64 y2) := QYb.get 1 rfl
          have QYf1 := Blk.frozen QYb 1
          have QYn := Blk.lt QYb
          have B21 : Below wb.heap.size wb w21 := by first | with_reducible exact below_next B20 hb21 | exact below_step B20 (by go_grown) hb21
          clear hb21 B20
          clear PL
          rcases PT.out with ⟨rfl, rfl, rfl, rfl, q1, q2⟩ | ⟨rfl, rfl, rfl, rfl | ⟨rfl, rfl⟩ | ⟨rfl, rfl, rfl⟩⟩
          all_goals clear PT
          · have q3 := q1.symm
            have q4 := q2.symm
            clear q1 q2
            subst q3 q4
            go_wp2_with fail
            with_reducible refine (DO.out _ (HRB5.out.next (B21.alloc B21.size _)) (HRA5.out.next (B21.alloc B21.size _))).mono ?_
            rintro e w22 ⟨rfl, hb22⟩
            have QSm : Blk w22 (w11.heap.size) 25 #[.int .u64 s1, .int .u64 s2] := Blk.next (by repeat (first | (with_reducible exact QSb) | (refine Blk.new_at ?_; simp only [World.size_alloc]; done) | (with_reducible refine Blk.alloc ?_ _) | (with_reducible refine Blk.drewN ?_ _))) hb22
            clear QSn QSb QSc0 QSf0 QSc1 QSf1
            have QSb := QSm
            clear QSm
            have QSc0 : World.cell? w22 ⟨w11.heap.size, 0, none⟩ = some (.int .u64 s1) := QSb.get 0 rfl
            have QSf0 := Blk.frozen QSb 0
            have QSc1 : World.cell? w22 ⟨w11.heap.size, 1, none⟩ = some (.int .u64 s2) := QSb.get 1 rfl
            have QSf1 := Blk.frozen QSb 1
            have QSn := Blk.lt QSb
            have QTm : Blk w22 (w12.heap.size) 25 #[.int .u64 s1, .int .u64 s2] := Blk.next (by repeat (first | (with_reducible exact QTb) | (refine Blk.new_at ?_; simp only [World.size_alloc]; done) | (with_reducible refine Blk.alloc ?_ _) | (with_reducible refine Blk.drewN ?_ _))) hb22
            clear QTn QTb QTc0 QTf0 QTc1 QTf1
            have QTb := QTm
            clear QTm
            have QTc0 : World.cell? w22 ⟨w12.heap.size, 0, none⟩ = some (.int .u64 s1) := QTb.get 0 rfl
            have QTf0 := Blk.frozen QTb 0
            have QTc1 : World.cell? w22 ⟨w12.heap.size, 1, none⟩ = some (.int .u64 s2) := QTb.get 1 rfl
            have QTf1 := Blk.frozen QTb 1
            have QTn := Blk.lt QTb
            have QXm : Blk w22 (qx) 25 #[.int .u64 x1, .int .u64 x2] := Blk.next (by repeat (first | (with_reducible exact QXb) | (refine Blk.new_at ?_; simp only [World.size_alloc]; done) | (with_reducible refine Blk.alloc ?_ _) | (with_reducible refine Blk.drewN ?_ _))) hb22
            clear QXn QXb QXc0 QXf0 QXc1 QXf1
            have QXb := QXm
            clear QXm
            have QXc0 : World.cell? w22 ⟨qx, 0, none⟩ = some (.int .u64 x1) := QXb.get 0 rfl
            have QXf0 := Blk.frozen QXb 0
            have QXc1 : World.cell? w22 ⟨qx, 1, none⟩ = some (.int .u64 x2) := QXb.get 1 rfl
            have QXf1 := Blk.frozen QXb 1
            have QXn := Blk.lt QXb
            have QYm : Blk w22 (qy) 25 #[.int .u64 y1, .int .u64 y2] := Blk.next (by repeat (first | (with_reducible exact QYb) | (refine Blk.new_at ?_; simp only [World.size_alloc]; done) | (with_reducible refine Blk.alloc ?_ _) | (with_reducible refine Blk.drewN ?_ _))) hb22
            clear QYn QYb QYc0 QYf0 QYc1 QYf1
            have QYb := QYm
            clear QYm
            have QYc0 : World.cell? w22 ⟨qy, 0, none⟩ = some (.int .u64 y1) := QYb.get 0 rfl
            have QYf0 := Blk.frozen QYb 0
            have QYc1 : World.cell? w22 ⟨qy, 1, none⟩ = some (.int .u64 y2) := QYb.get 1 rfl
            have QYf1 := Blk.frozen QYb 1
            have QYn := Blk.lt QYb
            have B22 : Below wb.heap.size wb w22 := by first | with_reducible exact below_next B21 hb22 | exact below_step B21 (by go_grown) hb22
            clear hb22 B21
            go_wp2_with fail
            go_ret
            exact ⟨by simp, HBW.out _ (B22.alloc B22.size _)⟩
          · go_wp2_with fail
            go_ret
            exact ⟨by simp, HBW.out _ (B21.alloc B21.size _)⟩
          · go_wp2_with fail
            go_ret
            exact ⟨by simp, HBW.out _ (B21.alloc B21.size _)⟩
          · go_wp2_with fail
            go_ret
            exact ⟨by simp, HBW.out _ (B21.alloc B21.size _)⟩

end Go.Proofs.Ytifndlkhhhedlaa
