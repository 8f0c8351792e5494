/-
  The walk of the law WideProducts: the product of any two numbers, how any fractions compare, and the products of any rows, are what the chapter says; rows stay.
-/
import Derived.Test.YtifndlkhhhedlaaProg
import Derived.Test.YtifndlkhhhedlaaDot
import Derived.Test.YtifndlkhhhedlaaRefDot
import Derived.Test.YtifndlkhhhedlaaCopyRow
namespace Go.Proofs.Ytifndlkhhhedlaa
set_option linter.unusedVariables false
set_option linter.unusedSimpArgs false
set_option maxRecDepth 100000
open Go.RowKit Go.Shelf

theorem refcmp_val (x y h1 l1 h2 l2 k : Int) (w : World) (e1 : x / 18446744073709551616 = h1) (e2 : x % 18446744073709551616 = l1) (e3 : y / 18446744073709551616 = h2) (e4 : y % 18446744073709551616 = l2) (ek : cmpN x y = k) :
    Calls Try.prog 15 #[.agg #[.int .u64 h1, .int .u64 l1], .agg #[.int .u64 h2, .int .u64 l2]] w fun e w' => e = .returned (.int .i64 k) ∧ Below w.heap.size w w' := by
  have a := wv_split x
  have b := wv_split y
  rw [e1, e2] at a
  rw [e3, e4] at b
  have := refcmp_any h1 l1 h2 l2 w
  rw [cmpW_words _ _ _ _ a.2 b.2, a.1, b.1, ek] at this
  exact this
theorem reffrac_val (a b c d k : Int) (w : World) (wa : Word a) (wb : Word b) (wc : Word c) (wd : Word d) (ek : cmpN (a * d) (c * b) = k) :
    Calls Try.prog 10 #[.int .u64 a, .int .u64 b, .int .u64 c, .int .u64 d] w fun e w' => e = .returned (.int .i64 k) ∧ Below w.heap.size w w' := by
  obtain ⟨h1, e1⟩ : ∃ h, a * d / 18446744073709551616 = h := ⟨_, rfl⟩
  obtain ⟨l1, e2⟩ : ∃ h, a * d % 18446744073709551616 = h := ⟨_, rfl⟩
  obtain ⟨h2, e3⟩ : ∃ h, c * b / 18446744073709551616 = h := ⟨_, rfl⟩
  obtain ⟨l2, e4⟩ : ∃ h, c * b % 18446744073709551616 = h := ⟨_, rfl⟩
  have F1 := Lib.hid (fun w => refmul_hl a d h1 l1 w wa wd e1 e2)
  have F2 := Lib.hid (fun w => refmul_hl c b h2 l2 w wc wb e3 e4)
  have F3 := Lib.hid (fun w => refcmp_val _ _ h1 l1 h2 l2 k w e1 e2 e3 e4 ek)
  clear e1 e2 e3 e4 ek
  go_enter Try.func10, Try.ntmps10
  go_wp2_with fail
  with_reducible refine (F1.out _).mono ?_
  rintro e w1 ⟨rfl, hb1⟩
  have B1 : Below w.heap.size w w1 := by first | with_reducible exact hb1 | exact Below.trans (by go_grown) (hb1.mono (by simp only [World.size_alloc]; omega))
  clear hb1
  go_wp2_with fail
  with_reducible refine (F2.out _).mono ?_
  rintro e w2 ⟨rfl, hb2⟩
  have B2 : Below w.heap.size w w2 := by first | with_reducible exact below_next B1 hb2 | exact below_step B1 (by go_grown) hb2
  clear hb2 B1
  go_wp2_with fail
  with_reducible refine (F3.out _).mono ?_
  rintro e w3 ⟨rfl, hb3⟩
  have B3 : Below w.heap.size w w3 := by first | with_reducible exact below_next B2 hb3 | exact below_step B2 (by go_grown) hb3
  clear hb3 B2
  go_wp2_with fail
  go_ret
  exact ⟨by simp, B3⟩

set_option maxHeartbeats 16000000 in
theorem wideProducts_walk (w : World) (a : Int) (ha : (Lit.int .u64 a).wf = true) (b : Int) (hb' : (Lit.int .u64 b).wf = true) (c : Int) (hc : (Lit.int .u64 c).wf = true) (d : Int) (hd : (Lit.int .u64 d).wf = true)
    (A : Option Addr) (n cA : Nat) (F : Nat → Int) (fF : ∀ i, i < n → (Lit.int .u64 (F i)).wf = true) (hlA : n ≤ cA) (hmA : cA ≤ maxLen) (hA : 0 < n → ∃ b off, A = some ⟨b, off, none⟩ ∧ b < w.heap.size) (hF : ∀ b off, A = some ⟨b, off, none⟩ → ∀ i, i < n → w.cell? ⟨b, off + (i * 1 + 0), none⟩ = some (.int .u64 (F i)))
    (B : Option Addr) (m cB : Nat) (G : Nat → Int) (fG : ∀ i, i < m → (Lit.int .u64 (G i)).wf = true) (hlB : m ≤ cB) (hmB : cB ≤ maxLen) (hB : 0 < m → ∃ b off, B = some ⟨b, off, none⟩ ∧ b < w.heap.size) (hG : ∀ b off, B = some ⟨b, off, none⟩ → ∀ i, i < m → w.cell? ⟨b, off + (i * 1 + 0), none⟩ = some (.int .u64 (G i))) :
    Calls Try.prog 3 #[.int .u64 a, .int .u64 b, .int .u64 c, .int .u64 d, .slice A n cA, .slice B m cB] w fun e w' => e = .returned (.bool true) ∧ Below w.heap.size w w' := by
  have wa := word_of_wf ha
  have wb := word_of_wf hb'
  have wc := word_of_wf hc
  have wd := word_of_wf hd
  have wF := fun i hi => word_of_wf (fF i hi)
  have wG := fun i hi => word_of_wf (fG i hi)
  have cF : ∀ b off, A = some ⟨b, off, none⟩ → ∀ i, i < n → w.cell? ⟨b, off + i, none⟩ = some (.int .u64 (F i)) := fun b off h i hi => by simpa using hF b off h i hi
  have cG : ∀ b off, B = some ⟨b, off, none⟩ → ∀ i, i < m → w.cell? ⟨b, off + i, none⟩ = some (.int .u64 (G i)) := fun b off h i hi => by simpa using hG b off h i hi
  clear ha hb' hc hd fF fG hF hG hlA hmA hlB hmB
  by_cases hn : 20 < n
  · have n1 : (20 : Int) < (n : Int) := by omega
    clear hn hA hB cF cG wF wG
    go_enter Try.func3, Try.ntmps3
    go_wp2_with fail
    go_ret
    exact ⟨rfl, Below.refl _ _⟩
  have n1 : decide ((20 : Int) < (n : Int)) = false := decide_eq_false (by omega)
  by_cases hm : 20 < m
  · have m1 : (20 : Int) < (m : Int) := by omega
    clear hn hm hA hB cF cG wF wG
    go_enter Try.func3, Try.ntmps3
    go_wp2_with fail
    go_ret
    exact ⟨rfl, Below.refl _ _⟩
  have m1 : decide ((20 : Int) < (m : Int)) = false := decide_eq_false (by omega)
  have lift : ∀ (W : World), Below w.heap.size w W → ∀ (A : Option Addr) (n : Nat) (F : Nat → Int), (0 < n → ∃ b off, A = some ⟨b, off, none⟩ ∧ b < w.heap.size) → (∀ b off, A = some ⟨b, off, none⟩ → ∀ i, i < n → w.cell? ⟨b, off + i, none⟩ = some (.int .u64 (F i))) →
      (0 < n → ∃ b off, A = some ⟨b, off, none⟩ ∧ b < W.heap.size) ∧ ∀ b off, A = some ⟨b, off, none⟩ → ∀ i, i < n → W.cell? ⟨b, off + i, none⟩ = some (.int .u64 (F i)) := by
    intro W hW A n F hA hF
    refine ⟨fun h => ?_, fun b off e i hi => ?_⟩
    · obtain ⟨b, off, e, k⟩ := hA h
      exact ⟨b, off, e, Nat.lt_of_lt_of_le k hW.size⟩
    · obtain ⟨b', off', e', k⟩ := hA (by omega)
      rw [e] at e'; injection e' with e'; injection e' with e1 e2; subst e1
      exact (hW.cell (p := ⟨b, off + i, none⟩) k).trans (hF b off e i hi)
  obtain ⟨A', c', W, hrun, hW, hcp⟩ := copy_run w A n cA F (by omega) (fun h => by obtain ⟨b, off, e, _⟩ := hA h; exact ⟨b, off, e⟩) (lift _ (by go_grown) A n F hA cF).2
  have lB := lift W hW B m G hB cG
  have D1 := Lib.hid (dot_any A' n c' F B m cB G W wF wG (by omega) (by omega) (fun h => by obtain ⟨g, e, k, _⟩ := hcp h; exact ⟨g, 0, e, k⟩) lB.1 (fun b off e i hi => by obtain ⟨g, e', _, k⟩ := hcp (by omega); rw [e] at e'; injection e' with e'; injection e' with e1 e2; subst e1 e2; exact k i hi) lB.2)
  have LF := Lib.hid lift
  have HRUN := Lib.hid hrun
  clear hrun
  have RD : Hid (∀ W2, Below w.heap.size w W2 → Calls Try.prog 6 #[.slice A n cA, .slice B m cB] W2 fun e w' => e = .returned (.tuple #[.agg #[.int .u64 (dotH (dsum F G (min n m))), .int .u64 (dotL (dsum F G (min n m)))], .int .i64 (dotE (dsum F G (min n m)))]) ∧ Below W2.heap.size W2 w') := fun W2 h2 => by
    have x := LF.out W2 h2 A n F hA cF
    have y := LF.out W2 h2 B m G hB cG
    exact refdot_any A n cA F B m cB G W2 wF wG (by omega) (by omega) x.1 y.1 x.2 y.2
  have HCP := Lib.hid hcp
  have HA := Lib.hid hA
  have HF := Lib.hid cF
  have HW := Lib.hid hW
  obtain ⟨s, es⟩ : ∃ s, dsum F G (min n m) = s := ⟨_, rfl⟩
  rw [es] at D1 RD
  obtain ⟨h1, e1⟩ : ∃ z, dotH s = z := ⟨_, rfl⟩
  obtain ⟨h2, e2⟩ : ∃ z, dotL s = z := ⟨_, rfl⟩
  obtain ⟨h3, e3⟩ : ∃ z, dotE s = z := ⟨_, rfl⟩
  rw [e1, e2, e3] at D1 RD
  obtain ⟨ph, e4⟩ : ∃ h, a * b / 18446744073709551616 = h := ⟨_, rfl⟩
  obtain ⟨pl, e5⟩ : ∃ h, a * b % 18446744073709551616 = h := ⟨_, rfl⟩
  have M1 := Lib.hid (fun w => mul_hl a b ph pl w wa wb e4 e5)
  have M2 := Lib.hid (fun w => refmul_hl a b ph pl w wa wb e4 e5)
  obtain ⟨k, ek⟩ : ∃ k, cmpN (a * d) (c * b) = k := ⟨_, rfl⟩
  have Q1 := Lib.hid (fun w => frac_val a b c d k w wa wb wc wd ek)
  have Q2 := Lib.hid (fun w => reffrac_val a b c d k w wa wb wc wd ek)
  have nn : (n : Int) ≤ 20 := by omega
  have b1 : (ph == ph) = true := by simp
  have b2 : (pl == pl) = true := by simp
  have b3 : (k == k) = true := by simp
  have b4 : (h1 == h1) = true := by simp
  have b5 : (h2 == h2) = true := by simp
  have b6 : (h3 == h3) = true := by simp
  clear hn hm hA hB cF cG wF wG lift lB hcp hW es e1 e2 e3 e4 e5 ek
  go_enter Try.func3, Try.ntmps3
  go_wp2_with (at_builtin; refine wpList_append_run rfl (.tmp 27) (.tmp 28) 23 rfl _ _ _ rfl rfl HRUN.out ?_)
  go_wp2_with fail
  with_reducible refine (D1.out).mono ?_
  rintro e w1 ⟨rfl, hb1⟩
  have B1 := below_next HW.out hb1
  have B1' := B1.alloc B1.size (.cells #[.int .u64 h1, .int .u64 h2] 25)
  have X1 := Lib.hid (Blk.new w1 25 #[.int .u64 h1, .int .u64 h2])
  have HB1 := Lib.hid hb1
  clear hb1 B1
  go_wp2_with fail
  with_reducible refine (RD.out _ B1').mono ?_
  rintro e w2 ⟨rfl, hb2⟩
  have B2 := Lib.hid (below_next B1' hb2)
  have X2 := Lib.hid (X1.out.next hb2)
  have HB2 : Hid (Below W.heap.size W w2) := below_next (HB1.out.alloc HB1.out.size _) hb2
  clear B1' hb2 X1 HB1
  go_wp2_with fail
  go_loopg [18] n (fun gk ix wr => ∃ i : Nat, i + gk = n ∧ ix = .int .i64 i ∧ Blk wr w1.heap.size 25 #[.int .u64 h1, .int .u64 h2] ∧ Blk wr w2.heap.size 25 #[.int .u64 h1, .int .u64 h2] ∧ Below W.heap.size W wr ∧ Below w.heap.size w wr)
  case atStart => exact ⟨0, by omega, rfl, X2.out.alloc _, Blk.new w2 _ _, HB2.out.alloc HB2.out.size _, B2.out.alloc B2.out.size _⟩
  case round =>
    obtain ⟨i, hi, rfl, Xb, Yb, hbW, hbw⟩ := hrel
    clear X2 HB2 B2
    have HX := Lib.hid Xb
    have HY := Lib.hid Yb
    have HBW := Lib.hid hbW
    have HBw := Lib.hid hbw
    clear Xb Yb hbW hbw
    by_cases hlt : i < n
    · obtain ⟨gm, rfl⟩ : ∃ gm, gk = gm + 1 := ⟨gk - 1, by omega⟩
      obtain ⟨g, rfl, hg, hcg⟩ := HCP.out (by omega)
      obtain ⟨bA, off, rfl, hbA⟩ := HA.out (by omega)
      have c1 := (HBW.out.cell (p := ⟨g, 0 + i, none⟩) hg).trans (hcg i hlt)
      rw [Nat.zero_add] at c1
      have c2 := (HBw.out.cell (p := ⟨bA, off + i, none⟩) hbA).trans (HF.out _ _ rfl i hlt)
      have hg2 : g < wr.heap.size := Nat.lt_of_lt_of_le hg HBW.out.size
      have hb2 : bA < wr.heap.size := Nat.lt_of_lt_of_le hbA HBw.out.size
      obtain ⟨x, ex⟩ : ∃ z, F i = z := ⟨_, rfl⟩
      rw [ex] at c1 c2
      have KR : Hid (∀ w', Below (wr.heap.size) wr w' → (w'.cell? ⟨g, i, none⟩ = some (.int .u64 x) ∧ w'.cell? ⟨bA, off + i, none⟩ = some (.int .u64 x)) ∧ Below (wr.heap.size) wr w') := fun w' hb => ⟨⟨((hb.cell (p := ⟨g, i, none⟩) hg2).trans c1), ((hb.cell (p := ⟨bA, off + i, none⟩) hb2).trans c2)⟩, hb⟩
      have i0 : (0 : Int) ≤ (i : Int) := by omega
      have i1 : (i : Int) < (n : Int) := by omega
      have xx : (x != x) = false := by simp
      clear c1 c2 hcg ex hlt
      go_wp2_with fail
      refine wp_region_noPanic ?_
      refine wp_region_held_drew (S := fun w' => (w'.cell? ⟨g, i, none⟩ = some (.int .u64 x) ∧ w'.cell? ⟨bA, off + i, none⟩ = some (.int .u64 x)) ∧ Below (wr.heap.size) wr w') (by kernel_rfl) (KR.out _ (below_of_drew (Below.refl wr.heap.size wr))) (fun hH => ?_)
      first | (refine wpAnyH_take (i := 0) (v := undef) rfl ?_ ?_ ?_ (fun _ _ _ h => h) ?_ ?_ ?_; kernel_rfl; kernel_rfl; kernel_rfl; exact Or.inr ⟨by rfl, rfl⟩; exact hH) | (refine wpAnyH_take (i := 0) (v := ?_) rfl ?_ ?_ ?_ (fun _ _ _ h => h) ?_ ?_ ?_; rotate_left; kernel_rfl; kernel_rfl; kernel_rfl; (focus (refine Or.inl ⟨by rfl, ?_⟩; intro w' hSw; (try dsimp only at hSw); go_simp)); exact hH) | (refine wpAnyH_take (i := 0) (v := ?_) rfl ?_ ?_ ?_ (fun _ _ _ h => h) ?_ ?_ ?_; rotate_left; kernel_rfl; kernel_rfl; kernel_rfl; (focus (refine Or.inl ⟨by rfl, ?_⟩; intro w' hSw; (try dsimp only at hSw); go_simp; with_reducible rfl)); exact hH)
      try simp only [Act.put, List.getElem_toArray, List.getElem_cons_succ, List.getElem_cons_zero, List.setIfInBounds_toArray, List.set_cons_zero, List.set_cons_succ]
      first | (refine wpAnyH_take (i := 1) (v := undef) rfl ?_ ?_ ?_ (fun _ _ _ h => h) ?_ ?_ ?_; kernel_rfl; kernel_rfl; kernel_rfl; exact Or.inr ⟨by rfl, rfl⟩; exact hH) | (refine wpAnyH_take (i := 1) (v := ?_) rfl ?_ ?_ ?_ (fun _ _ _ h => h) ?_ ?_ ?_; rotate_left; kernel_rfl; kernel_rfl; kernel_rfl; (focus (refine Or.inl ⟨by rfl, ?_⟩; intro w' hSw; (try dsimp only at hSw); go_simp)); exact hH) | (refine wpAnyH_take (i := 1) (v := ?_) rfl ?_ ?_ ?_ (fun _ _ _ h => h) ?_ ?_ ?_; rotate_left; kernel_rfl; kernel_rfl; kernel_rfl; (focus (refine Or.inl ⟨by rfl, ?_⟩; intro w' hSw; (try dsimp only at hSw); go_simp; with_reducible rfl)); exact hH)
      try simp only [Act.put, List.getElem_toArray, List.getElem_cons_succ, List.getElem_cons_zero, List.setIfInBounds_toArray, List.set_cons_zero, List.set_cons_succ]
      first | (refine wpAnyH_take (i := 2) (v := undef) rfl ?_ ?_ ?_ (fun _ _ _ h => h) ?_ ?_ ?_; kernel_rfl; kernel_rfl; kernel_rfl; exact Or.inr ⟨by rfl, rfl⟩; exact hH) | (refine wpAnyH_take (i := 2) (v := ?_) rfl ?_ ?_ ?_ (fun _ _ _ h => h) ?_ ?_ ?_; rotate_left; kernel_rfl; kernel_rfl; kernel_rfl; (focus (refine Or.inl ⟨by rfl, ?_⟩; intro w' hSw; (try dsimp only at hSw); go_simp)); exact hH) | (refine wpAnyH_take (i := 2) (v := ?_) rfl ?_ ?_ ?_ (fun _ _ _ h => h) ?_ ?_ ?_; rotate_left; kernel_rfl; kernel_rfl; kernel_rfl; (focus (refine Or.inl ⟨by rfl, ?_⟩; intro w' hSw; (try dsimp only at hSw); go_simp; with_reducible rfl)); exact hH)
      try simp only [Act.put, List.getElem_toArray, List.getElem_cons_succ, List.getElem_cons_zero, List.setIfInBounds_toArray, List.set_cons_zero, List.set_cons_succ]
      first | (refine wpAnyH_take (i := 3) (v := undef) rfl ?_ ?_ ?_ (fun _ _ _ h => h) ?_ ?_ ?_; kernel_rfl; kernel_rfl; kernel_rfl; exact Or.inr ⟨by rfl, rfl⟩; exact hH) | (refine wpAnyH_take (i := 3) (v := ?_) rfl ?_ ?_ ?_ (fun _ _ _ h => h) ?_ ?_ ?_; rotate_left; kernel_rfl; kernel_rfl; kernel_rfl; (focus (refine Or.inl ⟨by rfl, ?_⟩; intro w' hSw; (try dsimp only at hSw); go_simp)); exact hH) | (refine wpAnyH_take (i := 3) (v := ?_) rfl ?_ ?_ ?_ (fun _ _ _ h => h) ?_ ?_ ?_; rotate_left; kernel_rfl; kernel_rfl; kernel_rfl; (focus (refine Or.inl ⟨by rfl, ?_⟩; intro w' hSw; (try dsimp only at hSw); go_simp; with_reducible rfl)); exact hH)
      try simp only [Act.put, List.getElem_toArray, List.getElem_cons_succ, List.getElem_cons_zero, List.setIfInBounds_toArray, List.set_cons_zero, List.set_cons_succ]
      first | (refine wpAnyH_take (i := 4) (v := undef) rfl ?_ ?_ ?_ (fun _ _ _ h => h) ?_ ?_ ?_; kernel_rfl; kernel_rfl; kernel_rfl; exact Or.inr ⟨by rfl, rfl⟩; exact hH) | (refine wpAnyH_take (i := 4) (v := ?_) rfl ?_ ?_ ?_ (fun _ _ _ h => h) ?_ ?_ ?_; rotate_left; kernel_rfl; kernel_rfl; kernel_rfl; (focus (refine Or.inl ⟨by rfl, ?_⟩; intro w' hSw; (try dsimp only at hSw); go_simp)); exact hH) | (refine wpAnyH_take (i := 4) (v := ?_) rfl ?_ ?_ ?_ (fun _ _ _ h => h) ?_ ?_ ?_; rotate_left; kernel_rfl; kernel_rfl; kernel_rfl; (focus (refine Or.inl ⟨by rfl, ?_⟩; intro w' hSw; (try dsimp only at hSw); go_simp; with_reducible rfl)); exact hH)
      try simp only [Act.put, List.getElem_toArray, List.getElem_cons_succ, List.getElem_cons_zero, List.setIfInBounds_toArray, List.set_cons_zero, List.set_cons_succ]
      first | (refine wpAnyH_take (i := 5) (v := undef) rfl ?_ ?_ ?_ (fun _ _ _ h => h) ?_ ?_ ?_; kernel_rfl; kernel_rfl; kernel_rfl; exact Or.inr ⟨by rfl, rfl⟩; exact hH) | (refine wpAnyH_take (i := 5) (v := ?_) rfl ?_ ?_ ?_ (fun _ _ _ h => h) ?_ ?_ ?_; rotate_left; kernel_rfl; kernel_rfl; kernel_rfl; (focus (refine Or.inl ⟨by rfl, ?_⟩; intro w' hSw; (try dsimp only at hSw); go_simp)); exact hH) | (refine wpAnyH_take (i := 5) (v := ?_) rfl ?_ ?_ ?_ (fun _ _ _ h => h) ?_ ?_ ?_; rotate_left; kernel_rfl; kernel_rfl; kernel_rfl; (focus (refine Or.inl ⟨by rfl, ?_⟩; intro w' hSw; (try dsimp only at hSw); go_simp; with_reducible rfl)); exact hH)
      try simp only [Act.put, List.getElem_toArray, List.getElem_cons_succ, List.getElem_cons_zero, List.setIfInBounds_toArray, List.set_cons_zero, List.set_cons_succ]
      first | (refine wpAnyH_take (i := 6) (v := undef) rfl ?_ ?_ ?_ (fun _ _ _ h => h) ?_ ?_ ?_; kernel_rfl; kernel_rfl; kernel_rfl; exact Or.inr ⟨by rfl, rfl⟩; exact hH) | (refine wpAnyH_take (i := 6) (v := ?_) rfl ?_ ?_ ?_ (fun _ _ _ h => h) ?_ ?_ ?_; rotate_left; kernel_rfl; kernel_rfl; kernel_rfl; (focus (refine Or.inl ⟨by rfl, ?_⟩; intro w' hSw; (try dsimp only at hSw); go_simp)); exact hH) | (refine wpAnyH_take (i := 6) (v := ?_) rfl ?_ ?_ ?_ (fun _ _ _ h => h) ?_ ?_ ?_; rotate_left; kernel_rfl; kernel_rfl; kernel_rfl; (focus (refine Or.inl ⟨by rfl, ?_⟩; intro w' hSw; (try dsimp only at hSw); go_simp; with_reducible rfl)); exact hH)
      try simp only [Act.put, List.getElem_toArray, List.getElem_cons_succ, List.getElem_cons_zero, List.setIfInBounds_toArray, List.set_cons_zero, List.set_cons_succ]
      first | (refine wpAnyH_take (i := 7) (v := undef) rfl ?_ ?_ ?_ (fun _ _ _ h => h) ?_ ?_ ?_; kernel_rfl; kernel_rfl; kernel_rfl; exact Or.inr ⟨by rfl, rfl⟩; exact hH) | (refine wpAnyH_take (i := 7) (v := ?_) rfl ?_ ?_ ?_ (fun _ _ _ h => h) ?_ ?_ ?_; rotate_left; kernel_rfl; kernel_rfl; kernel_rfl; (focus (refine Or.inl ⟨by rfl, ?_⟩; intro w' hSw; (try dsimp only at hSw); go_simp)); exact hH) | (refine wpAnyH_take (i := 7) (v := ?_) rfl ?_ ?_ ?_ (fun _ _ _ h => h) ?_ ?_ ?_; rotate_left; kernel_rfl; kernel_rfl; kernel_rfl; (focus (refine Or.inl ⟨by rfl, ?_⟩; intro w' hSw; (try dsimp only at hSw); go_simp; with_reducible rfl)); exact hH)
      try simp only [Act.put, List.getElem_toArray, List.getElem_cons_succ, List.getElem_cons_zero, List.setIfInBounds_toArray, List.set_cons_zero, List.set_cons_succ]
      first | (refine wpAnyH_take (i := 8) (v := undef) rfl ?_ ?_ ?_ (fun _ _ _ h => h) ?_ ?_ ?_; kernel_rfl; kernel_rfl; kernel_rfl; exact Or.inr ⟨by rfl, rfl⟩; exact hH) | (refine wpAnyH_take (i := 8) (v := ?_) rfl ?_ ?_ ?_ (fun _ _ _ h => h) ?_ ?_ ?_; rotate_left; kernel_rfl; kernel_rfl; kernel_rfl; (focus (refine Or.inl ⟨by rfl, ?_⟩; intro w' hSw; (try dsimp only at hSw); go_simp)); exact hH) | (refine wpAnyH_take (i := 8) (v := ?_) rfl ?_ ?_ ?_ (fun _ _ _ h => h) ?_ ?_ ?_; rotate_left; kernel_rfl; kernel_rfl; kernel_rfl; (focus (refine Or.inl ⟨by rfl, ?_⟩; intro w' hSw; (try dsimp only at hSw); go_simp; with_reducible rfl)); exact hH)
      try simp only [Act.put, List.getElem_toArray, List.getElem_cons_succ, List.getElem_cons_zero, List.setIfInBounds_toArray, List.set_cons_zero, List.set_cons_succ]
      refine wpAnyH_done (by kernel_rfl) ?_ _
      refine NoPanic.normal ?_
      have hbD := hH.2
      clear hH
      go_wp2_with fail
      go_roundg gm
      case rel => exact ⟨i + 1, by omega, by go_num, HX.out.next hbD, HY.out.next hbD, below_next HBW.out hbD, below_next HBw.out hbD⟩
      case measure => omega
    · obtain rfl : gk = 0 := by omega
      obtain rfl : i = n := by omega
      have Xb : Blk wr (w1.heap.size) 25 #[.int .u64 h1, .int .u64 h2] := HX.out
      have Xc0 : World.cell? wr ⟨w1.heap.size, 0, none⟩ = some (.int .u64 h1) := Xb.get 0 rfl
      have Xf0 := Blk.frozen Xb 0
      have Xc1 : World.cell? wr ⟨w1.heap.size, 1, none⟩ = some (.int .u64 h2) := Xb.get 1 rfl
      have Xf1 := Blk.frozen Xb 1
      have Xn := Blk.lt Xb
      have Yb : Blk wr (w2.heap.size) 25 #[.int .u64 h1, .int .u64 h2] := HY.out
      have Yc0 : World.cell? wr ⟨w2.heap.size, 0, none⟩ = some (.int .u64 h1) := Yb.get 0 rfl
      have Yf0 := Blk.frozen Yb 0
      have Yc1 : World.cell? wr ⟨w2.heap.size, 1, none⟩ = some (.int .u64 h2) := Yb.get 1 rfl
      have Yf1 := Blk.frozen Yb 1
      have Yn := Blk.lt Yb
      have B10 : Below wr.heap.size wr wr := Below.refl _ _
      go_wp2_with fail
      with_reducible refine (M1.out _).mono ?_
      rintro e w11 ⟨rfl, hb11⟩
      have Xm : Blk w11 (w1.heap.size) 25 #[.int .u64 h1, .int .u64 h2] := Blk.next (by repeat (first | (with_reducible exact Xb) | (refine Blk.new_at ?_; simp only [World.size_alloc]; done) | (with_reducible refine Blk.alloc ?_ _) | (with_reducible refine Blk.drewN ?_ _))) hb11
      clear Xn Xb Xc0 Xf0 Xc1 Xf1
      have Xb := Xm
      clear Xm
      have Xc0 : World.cell? w11 ⟨w1.heap.size, 0, none⟩ = some (.int .u64 h1) := Xb.get 0 rfl
      have Xf0 := Blk.frozen Xb 0
      have Xc1 : World.cell? w11 ⟨w1.heap.size, 1, none⟩ = some (.int .u64 h2) := Xb.get 1 rfl
      have Xf1 := Blk.frozen Xb 1
      have Xn := Blk.lt Xb
      have Ym : Blk w11 (w2.heap.size) 25 #[.int .u64 h1, .int .u64 h2] := Blk.next (by repeat (first | (with_reducible exact Yb) | (refine Blk.new_at ?_; simp only [World.size_alloc]; done) | (with_reducible refine Blk.alloc ?_ _) | (with_reducible refine Blk.drewN ?_ _))) hb11
      clear Yn Yb Yc0 Yf0 Yc1 Yf1
      have Yb := Ym
      clear Ym
      have Yc0 : World.cell? w11 ⟨w2.heap.size, 0, none⟩ = some (.int .u64 h1) := Yb.get 0 rfl
      have Yf0 := Blk.frozen Yb 0
      have Yc1 : World.cell? w11 ⟨w2.heap.size, 1, none⟩ = some (.int .u64 h2) := Yb.get 1 rfl
      have Yf1 := Blk.frozen Yb 1
      have Yn := Blk.lt Yb
      have B11 : Below wr.heap.size wr w11 := by first | with_reducible exact below_next B10 hb11 | exact below_step B10 (by go_grown) hb11
      clear hb11 B10
      go_wp2_with fail
      with_reducible refine (M2.out _).mono ?_
      rintro e w12 ⟨rfl, hb12⟩
      have Xm : Blk w12 (w1.heap.size) 25 #[.int .u64 h1, .int .u64 h2] := Blk.next (by repeat (first | (with_reducible exact Xb) | (refine Blk.new_at ?_; simp only [World.size_alloc]; done) | (with_reducible refine Blk.alloc ?_ _) | (with_reducible refine Blk.drewN ?_ _))) hb12
      clear Xn Xb Xc0 Xf0 Xc1 Xf1
      have Xb := Xm
      clear Xm
      have Xc0 : World.cell? w12 ⟨w1.heap.size, 0, none⟩ = some (.int .u64 h1) := Xb.get 0 rfl
      have Xf0 := Blk.frozen Xb 0
      have Xc1 : World.cell? w12 ⟨w1.heap.size, 1, none⟩ = some (.int .u64 h2) := Xb.get 1 rfl
      have Xf1 := Blk.frozen Xb 1
      have Xn := Blk.lt Xb
      have Ym : Blk w12 (w2.heap.size) 25 #[.int .u64 h1, .int .u64 h2] := Blk.next (by repeat (first | (with_reducible exact Yb) | (refine Blk.new_at ?_; simp only [World.size_alloc]; done) | (with_reducible refine Blk.alloc ?_ _) | (with_reducible refine Blk.drewN ?_ _))) hb12
      clear Yn Yb Yc0 Yf0 Yc1 Yf1
      have Yb := Ym
      clear Ym
      have Yc0 : World.cell? w12 ⟨w2.heap.size, 0, none⟩ = some (.int .u64 h1) := Yb.get 0 rfl
      have Yf0 := Blk.frozen Yb 0
      have Yc1 : World.cell? w12 ⟨w2.heap.size, 1, none⟩ = some (.int .u64 h2) := Yb.get 1 rfl
      have Yf1 := Blk.frozen Yb 1
      have Yn := Blk.lt Yb
      have B12 : Below wr.heap.size wr w12 := by first | with_reducible exact below_next B11 hb12 | exact below_step B11 (by go_grown) hb12
      clear hb12 B11
      go_wp2_with fail
      with_reducible refine (Q1.out _).mono ?_
      rintro e w13 ⟨rfl, hb13⟩
      have Xm : Blk w13 (w1.heap.size) 25 #[.int .u64 h1, .int .u64 h2] := Blk.next (by repeat (first | (with_reducible exact Xb) | (refine Blk.new_at ?_; simp only [World.size_alloc]; done) | (with_reducible refine Blk.alloc ?_ _) | (with_reducible refine Blk.drewN ?_ _))) hb13
      clear Xn Xb Xc0 Xf0 Xc1 Xf1
      have Xb := Xm
      clear Xm
      have Xc0 : World.cell? w13 ⟨w1.heap.size, 0, none⟩ = some (.int .u64 h1) := Xb.get 0 rfl
      have Xf0 := Blk.frozen Xb 0
      have Xc1 : World.cell? w13 ⟨w1.heap.size, 1, none⟩ = some (.int .u64 h2) := Xb.get 1 rfl
      have Xf1 := Blk.frozen Xb 1
      have Xn := Blk.lt Xb
      have Ym : Blk w13 (w2.heap.size) 25 #[.int .u64 h1, .int .u64 h2] := Blk.next (by repeat (first | (with_reducible exact Yb) | (refine Blk.new_at ?_; simp only [World.size_alloc]; done) | (with_reducible refine Blk.alloc ?_ _) | (with_reducible refine Blk.drewN ?_ _))) hb13
      clear Yn Yb Yc0 Yf0 Yc1 Yf1
      have Yb := Ym
      clear Ym
      have Yc0 : World.cell? w13 ⟨w2.heap.size, 0, none⟩ = some (.int .u64 h1) := Yb.get 0 rfl
      have Yf0 := Blk.frozen Yb 0
      have Yc1 : World.cell? w13 ⟨w2.heap.size, 1, none⟩ = some (.int .u64 h2) := Yb.get 1 rfl
      have Yf1 := Blk.frozen Yb 1
      have Yn := Blk.lt Yb
      have B13 : Below wr.heap.size wr w13 := by first | with_reducible exact below_next B12 hb13 | exact below_step B12 (by go_grown) hb13
      clear hb13 B12
      go_wp2_with fail
      with_reducible refine (Q2.out _).mono ?_
      rintro e w14 ⟨rfl, hb14⟩
      have Xm : Blk w14 (w1.heap.size) 25 #[.int .u64 h1, .int .u64 h2] := Blk.next (by repeat (first | (with_reducible exact Xb) | (refine Blk.new_at ?_; simp only [World.size_alloc]; done) | (with_reducible refine Blk.alloc ?_ _) | (with_reducible refine Blk.drewN ?_ _))) hb14
      clear Xn Xb Xc0 Xf0 Xc1 Xf1
      have Xb := Xm
      clear Xm
      have Xc0 : World.cell? w14 ⟨w1.heap.size, 0, none⟩ = some (.int .u64 h1) := Xb.get 0 rfl
      have Xf0 := Blk.frozen Xb 0
      have Xc1 : World.cell? w14 ⟨w1.heap.size, 1, none⟩ = some (.int .u64 h2) := Xb.get 1 rfl
      have Xf1 := Blk.frozen Xb 1
      have Xn := Blk.lt Xb
      have Ym : Blk w14 (w2.heap.size) 25 #[.int .u64 h1, .int .u64 h2] := Blk.next (by repeat (first | (with_reducible exact Yb) | (refine Blk.new_at ?_; simp only [World.size_alloc]; done) | (with_reducible refine Blk.alloc ?_ _) | (with_reducible refine Blk.drewN ?_ _))) hb14
      clear Yn Yb Yc0 Yf0 Yc1 Yf1
      have Yb := Ym
      clear Ym
      have Yc0 : World.cell? w14 ⟨w2.heap.size, 0, none⟩ = some (.int .u64 h1) := Yb.get 0 rfl
      have Yf0 := Blk.frozen Yb 0
      have Yc1 : World.cell? w14 ⟨w2.heap.size, 1, none⟩ = some (.int .u64 h2) := Yb.get 1 rfl
      have Yf1 := Blk.frozen Yb 1
      have Yn := Blk.lt Yb
      have B14 : Below wr.heap.size wr w14 := by first | with_reducible exact below_next B13 hb14 | exact below_step B13 (by go_grown) hb14
      clear hb14 B13
      go_wp2_with fail
      go_ret
      exact ⟨by simp, below_next HBw.out B14⟩

end Go.Proofs.Ytifndlkhhhedlaa
