/-
  VirtNever holds.
-/
import Derived.Test.YtjhffbhjiflfeaaVirtP
namespace Go.Proofs.Ytjhffbhjiflfeaa
set_option linter.unusedVariables false
set_option linter.unusedSimpArgs false
set_option maxRecDepth 100000
open Go.RowKit Go.Shelf

theorem long_any (A : Option Addr) (n c : Nat) (w : World) (b : Bool) (hb : decide (150 < n) = b) : Calls Try.prog 5 #[.slice A n c] w fun e w' => e = .returned (.bool b) ∧ w = w' := by
  have hd : decide ((150 : Int) < (n : Int)) = b := by rw [← hb]; congr 1; apply propext; omega
  clear hb
  go_enter Try.func5, Try.ntmps5
  go_wp2_with fail
  go_ret
  exact ⟨by simp, rfl⟩
set_option maxHeartbeats 16000000 in
theorem virtNever_walk (w : World) (A : Option Addr) (n c : Nat) (K : Nat → Int) (fK : ∀ i, i < n → (Lit.int .u8 (K i)).wf = true) (I : Nat → Int) (fI : ∀ i, i < n → (Lit.int .i64 (I i)).wf = true) (F : Nat → Int) (fF : ∀ i, i < n → (Lit.int .u64 (F i)).wf = true) (L : Nat → Int) (fL : ∀ i, i < n → (Lit.int .u64 (L i)).wf = true) (R : Nat → Int) (fR : ∀ i, i < n → (Lit.int .u64 (R i)).wf = true) (G : Nat → Int) (fG : ∀ i, i < n → (Lit.int .u64 (G i)).wf = true) (hl : n ≤ c) (hm : c ≤ maxLen)
    (hA : 0 < n → ∃ b off, A = some ⟨b, off, none⟩ ∧ b < w.heap.size) (hK : ∀ b off, A = some ⟨b, off, none⟩ → ∀ i, i < n → w.cell? ⟨b, off + (i * 6 + 0), none⟩ = some (.int .u8 (K i))) (hI : ∀ b off, A = some ⟨b, off, none⟩ → ∀ i, i < n → w.cell? ⟨b, off + (i * 6 + 1), none⟩ = some (.int .i64 (I i)))
    (hF : ∀ b off, A = some ⟨b, off, none⟩ → ∀ i, i < n → w.cell? ⟨b, off + (i * 6 + 2), none⟩ = some (.int .u64 (F i))) (hL : ∀ b off, A = some ⟨b, off, none⟩ → ∀ i, i < n → w.cell? ⟨b, off + (i * 6 + 3), none⟩ = some (.int .u64 (L i))) (hR : ∀ b off, A = some ⟨b, off, none⟩ → ∀ i, i < n → w.cell? ⟨b, off + (i * 6 + 4), none⟩ = some (.int .u64 (R i))) (hG : ∀ b off, A = some ⟨b, off, none⟩ → ∀ i, i < n → w.cell? ⟨b, off + (i * 6 + 5), none⟩ = some (.int .u64 (G i))) :
    Calls Try.prog 3 #[.slice A n c] w fun e w' => e = .returned (.bool true) ∧ Below w.heap.size w w' := by
  have HA : Hid (VActs w A n K I F L R G) := ⟨hA, fun b off h i hi => ⟨by simpa using hK b off h i hi, by simpa [Nat.add_assoc] using hI b off h i hi, by simpa [Nat.add_assoc] using hF b off h i hi, by simpa [Nat.add_assoc] using hL b off h i hi, by simpa [Nat.add_assoc] using hR b off h i hi, by simpa [Nat.add_assoc] using hG b off h i hi⟩⟩
  have HW := Lib.hid (And.intro (fun i hi => word_of_wf (fF i hi)) (And.intro (fun i hi => word_of_wf (fL i hi)) (And.intro (fun i hi => word_of_wf (fR i hi)) (fun i hi => word_of_wf (fG i hi)))))
  clear hA hK hI hF hL hR hG fK fI fF fL fR fG hl hm
  have AW := Lib.hid (vawake_law w)
  have LO := Lib.hid (fun w b hb => long_any A n c w b hb)
  by_cases hn : 150 < n
  · have LT := Lib.hid (fun w => LO.out w true (decide_eq_true hn))
    clear hn LO
    go_enter Try.func3, Try.ntmps3
    go_wp2_with fail
    with_reducible refine (AW.out).mono ?_
    rintro e ws ⟨rfl, hb1⟩
    have HB := Lib.hid hb1
    clear hb1
    go_wp2_with fail
    with_reducible refine (LT.out ws).mono ?_
    rintro e wx ⟨rfl, rfl⟩
    go_wp2_with fail
    go_ret
    exact ⟨by simp, HB.out⟩
  have LT := Lib.hid (fun w => LO.out w false (decide_eq_false hn))
  have HN := Lib.hid (show n ≤ 150 by omega)
  clear hn LO
  go_enter Try.func3, Try.ntmps3
  go_wp2_with fail
  with_reducible refine (AW.out).mono ?_
  rintro e ws ⟨rfl, hb1⟩
  have HB := Lib.hid hb1
  clear hb1
  go_wp2_with fail
  with_reducible refine (LT.out ws).mono ?_
  rintro e wx ⟨rfl, rfl⟩
  go_wp2_with fail
  with_reducible refine (fi_new ws).mono ?_
  rintro e wt ⟨f, mb, rfl, h2⟩
  have H2 := Lib.hid h2
  clear h2
  go_wp2_with fail
  go_loopg [4, 5] n (fun gk gv ix wr => ∃ (i : Nat) (S : FS), i + gk = n ∧ ix = .int .i64 i ∧ gv = .int .u64 S.k ∧ FamIn ws.heap.size ws wr f mb S ∧ S.ok i)
  case atStart => exact ⟨0, ⟨0, []⟩, by omega, rfl, rfl, H2.out, fs_none⟩
  case round =>
    obtain ⟨i, S, hi, rfl, rfl, hfam, hok⟩ := hrel
    have HF := Lib.hid (And.intro hfam hok)
    clear hfam hok H2
    obtain ⟨wo, rfl⟩ : ∃ x : World, x = wr := ⟨_, rfl⟩
    by_cases hlt : i < n
    · obtain ⟨gm, rfl⟩ : ∃ gm, gk = gm + 1 := ⟨gk - 1, by omega⟩
      have HAA := (HA.out.below HB.out).below HF.out.1.below
      obtain ⟨bA, off, rfl, hbA⟩ := HAA.addr (by omega)
      obtain ⟨c0, c1, c2, c3, c4, c5⟩ := HAA.cells bA off rfl i hlt
      have p0 : (0 : Int) ≤ (i : Int) := by omega
      have p1 : (i : Int) < ((i + (gm + 1) : Nat) : Int) := by omega
      have p1' : (i : Int) < (n : Int) := by omega
      have HLT := Lib.hid hlt
      have HII := Lib.hid hi
      clear HAA hlt
      go_upto_region 11 with (fail)
      obtain ⟨k, hk⟩ : ∃ z, K i = z := ⟨_, rfl⟩
      obtain ⟨id, hid⟩ : ∃ z, I i = z := ⟨_, rfl⟩
      obtain ⟨xF, hxF⟩ : ∃ z, F i = z := ⟨_, rfl⟩
      obtain ⟨xL, hxL⟩ : ∃ z, L i = z := ⟨_, rfl⟩
      obtain ⟨xR, hxR⟩ : ∃ z, R i = z := ⟨_, rfl⟩
      obtain ⟨g, hg⟩ : ∃ z, G i = z := ⟨_, rfl⟩
      rw [hk, hid, hxF, hxL, hxR, hg]
      have HWI : Hid (Word xF ∧ Word xL ∧ Word xR ∧ Word g) := by unfold Hid; rw [← hxF, ← hxL, ← hxR, ← hg]; exact ⟨HW.out.1 i HLT.out, HW.out.2.1 i HLT.out, HW.out.2.2.1 i HLT.out, HW.out.2.2.2 i HLT.out⟩
      clear hk hid hxF hxL hxR hg c0 c1 c2 c3 c4 c5
      have hba : Below wo.heap.size wo (wo.alloc (.cells #[.int .u8 k, .int .i64 id, .int .u64 xF, .int .u64 xL, .int .u64 xR, .int .u64 g] 31)) := by go_grown
      have bx := Blk.new wo 31 #[.int .u8 k, .int .i64 id, .int .u64 xF, .int .u64 xL, .int .u64 xR, .int .u64 g]
      obtain ⟨wa, hwa⟩ : ∃ z, wo.alloc (.cells #[.int .u8 k, .int .i64 id, .int .u64 xF, .int .u64 xL, .int .u64 xR, .int .u64 g] 31) = z := ⟨_, rfl⟩
      obtain ⟨B, hB⟩ : ∃ z, wo.heap.size = z := ⟨_, rfl⟩
      rw [hwa] at hba bx ⊢
      rw [hB] at bx ⊢
      have HX := Lib.hid (And.intro (HF.out.1.next hba) bx)
      clear hwa hba bx hB
      have FV := Lib.hid (fun w' (hb : Below wa.heap.size wa w') => (fi_v id (HX.out.1.next hb)).mono (fun e w'' (h : e = .returned (.int .u64 (vOf id S.L)) ∧ w' = w'') => (⟨h.1, h.2 ▸ Below.refl _ _⟩ : e = .returned (.int .u64 (vOf id S.L)) ∧ Below w'.heap.size w' w'')))
      have FU := Lib.hid (fun w' (hb : Below wa.heap.size wa w') => (fi_awake id (HX.out.1.next hb)).mono (fun e w'' (h : e = .returned (.bool (upOf id S.L)) ∧ w' = w'') => (⟨h.1, h.2 ▸ Below.refl _ _⟩ : e = .returned (.bool (upOf id S.L)) ∧ Below w'.heap.size w' w'')))
      have FM := Lib.hid (fun w' (hb : Below wa.heap.size wa w') => (fi_mark (HX.out.1.next hb)).mono (fun e w'' (h : e = .returned (.int .u64 S.k) ∧ w' = w'') => (⟨h.1, h.2 ▸ Below.refl _ _⟩ : e = .returned (.int .u64 S.k) ∧ Below w'.heap.size w' w'')))
      have FI := Lib.hid (fun w' (hb : Below wa.heap.size wa w') => fi_ids (HX.out.1.next hb) HF.out.2 (by have := HLT.out; have := HN.out; omega))
      obtain ⟨was, hwas⟩ : ∃ z, vOf id S.L = z := ⟨_, rfl⟩
      obtain ⟨upp, hupp⟩ : ∃ z, upOf id S.L = z := ⟨_, rfl⟩
      obtain ⟨mk, hmk⟩ : ∃ z, S.k = z := ⟨_, rfl⟩
      rw [hwas] at FV
      rw [hupp] at FU
      rw [hmk] at FM ⊢
      have HV := Lib.hid (And.intro hwas (And.intro hupp hmk))
      clear hwas hupp hmk
      have KP : Hid (∀ w', Below (wa.heap.size) wa w' → (w'.cell? ⟨B, 1, none⟩ = some (.int .i64 id)) ∧ Below (wa.heap.size) wa w') := fun w' hb => ⟨(HX.out.2.next hb).get 1 rfl, hb⟩
      refine wp_region_noPanic ?_
      refine wp_region_held_drew (S := fun w' => (w'.cell? ⟨B, 1, none⟩ = some (.int .i64 id)) ∧ Below (wa.heap.size) wa w') (by kernel_rfl) (KP.out _ (below_of_drew ((Below.refl wa.heap.size wa)))) (fun hH => ?_)
      have hbR := below_of_drew ((Below.refl wa.heap.size wa))
      first | (refine wpAnyH_take (i := 0) (v := undef) rfl ?_ ?_ ?_ (fun _ _ _ h => h) ?_ ?_ ?_; kernel_rfl; kernel_rfl; kernel_rfl; exact Or.inr ⟨by rfl, rfl⟩; exact hH) | (refine wpAnyH_take (i := 0) (v := ?_) rfl ?_ ?_ ?_ (fun _ _ _ h => h) ?_ ?_ ?_; rotate_left; kernel_rfl; kernel_rfl; kernel_rfl; (focus (refine Or.inl ⟨by rfl, ?_⟩; intro w' hSw; (try dsimp only at hSw); go_simp)); exact hH) | (refine wpAnyH_take (i := 0) (v := ?_) rfl ?_ ?_ ?_ (fun _ _ _ h => h) ?_ ?_ ?_; rotate_left; kernel_rfl; kernel_rfl; kernel_rfl; (focus (refine Or.inl ⟨by rfl, ?_⟩; intro w' hSw; (try dsimp only at hSw); go_simp; with_reducible rfl)); exact hH)
      try simp only [Act.put, List.getElem_toArray, List.getElem_cons_succ, List.getElem_cons_zero, List.setIfInBounds_toArray, List.set_cons_zero, List.set_cons_succ]
      first | (refine wpAnyH_take (i := 1) (v := undef) rfl ?_ ?_ ?_ (fun _ _ _ h => h) ?_ ?_ ?_; kernel_rfl; kernel_rfl; kernel_rfl; exact Or.inr ⟨by rfl, rfl⟩; exact hH) | (refine wpAnyH_take (i := 1) (v := ?_) rfl ?_ ?_ ?_ (fun _ _ _ h => h) ?_ ?_ ?_; rotate_left; kernel_rfl; kernel_rfl; kernel_rfl; (focus (refine Or.inl ⟨by rfl, ?_⟩; intro w' hSw; (try dsimp only at hSw); go_simp)); exact hH) | (refine wpAnyH_take (i := 1) (v := ?_) rfl ?_ ?_ ?_ (fun _ _ _ h => h) ?_ ?_ ?_; rotate_left; kernel_rfl; kernel_rfl; kernel_rfl; (focus (refine Or.inl ⟨by rfl, ?_⟩; intro w' hSw; (try dsimp only at hSw); go_simp; with_reducible rfl)); exact hH)
      try simp only [Act.put, List.getElem_toArray, List.getElem_cons_succ, List.getElem_cons_zero, List.setIfInBounds_toArray, List.set_cons_zero, List.set_cons_succ]
      first | (refine wpAnyH_take (i := 2) (v := undef) rfl ?_ ?_ ?_ (fun _ _ _ h => h) ?_ ?_ ?_; kernel_rfl; kernel_rfl; kernel_rfl; exact Or.inr ⟨by rfl, rfl⟩; exact hH) | (refine wpAnyH_take (i := 2) (v := ?_) rfl ?_ ?_ ?_ (fun _ _ _ h => h) ?_ ?_ ?_; rotate_left; kernel_rfl; kernel_rfl; kernel_rfl; (focus (refine Or.inl ⟨by rfl, ?_⟩; intro w' hSw; (try dsimp only at hSw); go_simp)); exact hH) | (refine wpAnyH_take (i := 2) (v := ?_) rfl ?_ ?_ ?_ (fun _ _ _ h => h) ?_ ?_ ?_; rotate_left; kernel_rfl; kernel_rfl; kernel_rfl; (focus (refine Or.inl ⟨by rfl, ?_⟩; intro w' hSw; (try dsimp only at hSw); go_simp; with_reducible rfl)); exact hH)
      try simp only [Act.put, List.getElem_toArray, List.getElem_cons_succ, List.getElem_cons_zero, List.setIfInBounds_toArray, List.set_cons_zero, List.set_cons_succ]
      first | (refine wpAnyH_take (i := 4) (v := undef) rfl ?_ ?_ ?_ (fun _ _ _ h => h) ?_ ?_ ?_; kernel_rfl; kernel_rfl; kernel_rfl; exact Or.inr ⟨by rfl, rfl⟩; exact hH) | (refine wpAnyH_take (i := 4) (v := ?_) rfl ?_ ?_ ?_ (fun _ _ _ h => h) ?_ ?_ ?_; rotate_left; kernel_rfl; kernel_rfl; kernel_rfl; (focus (refine Or.inl ⟨by rfl, ?_⟩; intro w' hSw; (try dsimp only at hSw); go_simp)); exact hH) | (refine wpAnyH_take (i := 4) (v := ?_) rfl ?_ ?_ ?_ (fun _ _ _ h => h) ?_ ?_ ?_; rotate_left; kernel_rfl; kernel_rfl; kernel_rfl; (focus (refine Or.inl ⟨by rfl, ?_⟩; intro w' hSw; (try dsimp only at hSw); go_simp; with_reducible rfl)); exact hH)
      try simp only [Act.put, List.getElem_toArray, List.getElem_cons_succ, List.getElem_cons_zero, List.setIfInBounds_toArray, List.set_cons_zero, List.set_cons_succ]
      first | (refine wpAnyH_take (i := 6) (v := undef) rfl ?_ ?_ ?_ (fun _ _ _ h => h) ?_ ?_ ?_; kernel_rfl; kernel_rfl; kernel_rfl; exact Or.inr ⟨by rfl, rfl⟩; exact hH) | (refine wpAnyH_take (i := 6) (v := ?_) rfl ?_ ?_ ?_ (fun _ _ _ h => h) ?_ ?_ ?_; rotate_left; kernel_rfl; kernel_rfl; kernel_rfl; (focus (refine Or.inl ⟨by rfl, ?_⟩; intro w' hSw; (try dsimp only at hSw); go_simp)); exact hH) | (refine wpAnyH_take (i := 6) (v := ?_) rfl ?_ ?_ ?_ (fun _ _ _ h => h) ?_ ?_ ?_; rotate_left; kernel_rfl; kernel_rfl; kernel_rfl; (focus (refine Or.inl ⟨by rfl, ?_⟩; intro w' hSw; (try dsimp only at hSw); go_simp; with_reducible rfl)); exact hH)
      try simp only [Act.put, List.getElem_toArray, List.getElem_cons_succ, List.getElem_cons_zero, List.setIfInBounds_toArray, List.set_cons_zero, List.set_cons_succ]
      first | (refine wpAnyH_take (i := 7) (v := undef) rfl ?_ ?_ ?_ (fun _ _ _ h => h) ?_ ?_ ?_; kernel_rfl; kernel_rfl; kernel_rfl; exact Or.inr ⟨by rfl, rfl⟩; exact hH) | (refine wpAnyH_take (i := 7) (v := ?_) rfl ?_ ?_ ?_ (fun _ _ _ h => h) ?_ ?_ ?_; rotate_left; kernel_rfl; kernel_rfl; kernel_rfl; (focus (refine Or.inl ⟨by rfl, ?_⟩; intro w' hSw; (try dsimp only at hSw); go_simp)); exact hH) | (refine wpAnyH_take (i := 7) (v := ?_) rfl ?_ ?_ ?_ (fun _ _ _ h => h) ?_ ?_ ?_; rotate_left; kernel_rfl; kernel_rfl; kernel_rfl; (focus (refine Or.inl ⟨by rfl, ?_⟩; intro w' hSw; (try dsimp only at hSw); go_simp; with_reducible rfl)); exact hH)
      try simp only [Act.put, List.getElem_toArray, List.getElem_cons_succ, List.getElem_cons_zero, List.setIfInBounds_toArray, List.set_cons_zero, List.set_cons_succ]
      first | (refine wpAnyH_take (i := 8) (v := undef) rfl ?_ ?_ ?_ (fun _ _ _ h => h) ?_ ?_ ?_; kernel_rfl; kernel_rfl; kernel_rfl; exact Or.inr ⟨by rfl, rfl⟩; exact hH) | (refine wpAnyH_take (i := 8) (v := ?_) rfl ?_ ?_ ?_ (fun _ _ _ h => h) ?_ ?_ ?_; rotate_left; kernel_rfl; kernel_rfl; kernel_rfl; (focus (refine Or.inl ⟨by rfl, ?_⟩; intro w' hSw; (try dsimp only at hSw); go_simp)); exact hH) | (refine wpAnyH_take (i := 8) (v := ?_) rfl ?_ ?_ ?_ (fun _ _ _ h => h) ?_ ?_ ?_; rotate_left; kernel_rfl; kernel_rfl; kernel_rfl; (focus (refine Or.inl ⟨by rfl, ?_⟩; intro w' hSw; (try dsimp only at hSw); go_simp; with_reducible rfl)); exact hH)
      try simp only [Act.put, List.getElem_toArray, List.getElem_cons_succ, List.getElem_cons_zero, List.setIfInBounds_toArray, List.set_cons_zero, List.set_cons_succ]
      first | (refine wpAnyH_take (i := 11) (v := undef) rfl ?_ ?_ ?_ (fun _ _ _ h => h) ?_ ?_ ?_; kernel_rfl; kernel_rfl; kernel_rfl; exact Or.inr ⟨by rfl, rfl⟩; exact hH) | (refine wpAnyH_take (i := 11) (v := ?_) rfl ?_ ?_ ?_ (fun _ _ _ h => h) ?_ ?_ ?_; rotate_left; kernel_rfl; kernel_rfl; kernel_rfl; (focus (refine Or.inl ⟨by rfl, ?_⟩; intro w' hSw; (try dsimp only at hSw); go_simp)); exact hH) | (refine wpAnyH_take (i := 11) (v := ?_) rfl ?_ ?_ ?_ (fun _ _ _ h => h) ?_ ?_ ?_; rotate_left; kernel_rfl; kernel_rfl; kernel_rfl; (focus (refine Or.inl ⟨by rfl, ?_⟩; intro w' hSw; (try dsimp only at hSw); go_simp; with_reducible rfl)); exact hH)
      try simp only [Act.put, List.getElem_toArray, List.getElem_cons_succ, List.getElem_cons_zero, List.setIfInBounds_toArray, List.set_cons_zero, List.set_cons_succ]
      refine wpAnyH_ready (rs := [3]) (by kernel_rfl) (by simp) ?_
      refine (AllReadyH.cons rfl (fun K hK => ?_) AllReadyH.nil)
      go_simp
      with_reducible refine (FV.out _ hH.2).mono ?_
      rintro e w1 ⟨rfl, hb1'⟩
      have hb1 : Below (wa.heap.size) wa w1 := below_next hH.2 hb1'
      try go_wp2_with fail
      refine hK.out _ _ (KP.out _ hb1) (fun hH1 => ?_)
      clear hK K hH
      have hH := hH1
      clear hH1
      try simp only [Act.put, List.getElem_toArray, List.getElem_cons_succ, List.getElem_cons_zero, List.setIfInBounds_toArray, List.set_cons_zero, List.set_cons_succ]
      refine wpAnyH_ready (rs := [5]) (by kernel_rfl) (by simp) ?_
      refine (AllReadyH.cons rfl (fun K hK => ?_) AllReadyH.nil)
      go_simp
      with_reducible refine (FI.out _ hH.2).mono ?_
      rintro e w2 ⟨v, D, rfl, hL, hown, hb2⟩
      have hz2 : Below wa.heap.size wa w2 := below_next hH.2 hb2
      have HD := Lib.hid (And.intro hL (And.intro hown (And.intro hb2 hz2)))
      clear hL hown hb2
      refine hK.out _ _ (KP.out _ hz2) (fun hH2 => ?_)
      clear hK K hH
      have hH := hH2
      clear hH2
      try simp only [Act.put, List.getElem_toArray, List.getElem_cons_succ, List.getElem_cons_zero, List.setIfInBounds_toArray, List.set_cons_zero, List.set_cons_succ]
      refine wpAnyH_ready (rs := [9]) (by kernel_rfl) (by simp) ?_
      refine (AllReadyH.cons rfl (fun K hK => ?_) AllReadyH.nil)
      go_simp
      with_reducible refine (FU.out _ hH.2).mono ?_
      rintro e w3 ⟨rfl, hb3'⟩
      have hb3 : Below (wa.heap.size) wa w3 := below_next hH.2 hb3'
      try go_wp2_with fail
      refine hK.out _ _ (KP.out _ hb3) (fun hH3 => ?_)
      clear hK K hH
      have hH := hH3
      clear hH3
      try simp only [Act.put, List.getElem_toArray, List.getElem_cons_succ, List.getElem_cons_zero, List.setIfInBounds_toArray, List.set_cons_zero, List.set_cons_succ]
      first | (refine wpAnyH_take (i := 10) (v := undef) rfl ?_ ?_ ?_ (fun _ _ _ h => h) ?_ ?_ ?_; kernel_rfl; kernel_rfl; kernel_rfl; exact Or.inr ⟨by rfl, rfl⟩; exact hH) | (refine wpAnyH_take (i := 10) (v := ?_) rfl ?_ ?_ ?_ (fun _ _ _ h => h) ?_ ?_ ?_; rotate_left; kernel_rfl; kernel_rfl; kernel_rfl; (focus (refine Or.inl ⟨by rfl, ?_⟩; intro w' hSw; (try dsimp only at hSw); go_simp)); exact hH) | (refine wpAnyH_take (i := 10) (v := ?_) rfl ?_ ?_ ?_ (fun _ _ _ h => h) ?_ ?_ ?_; rotate_left; kernel_rfl; kernel_rfl; kernel_rfl; (focus (refine Or.inl ⟨by rfl, ?_⟩; intro w' hSw; (try dsimp only at hSw); go_simp; with_reducible rfl)); exact hH)
      try simp only [Act.put, List.getElem_toArray, List.getElem_cons_succ, List.getElem_cons_zero, List.setIfInBounds_toArray, List.set_cons_zero, List.set_cons_succ]
      refine wpAnyH_ready (rs := [12]) (by kernel_rfl) (by simp) ?_
      refine (AllReadyH.cons rfl (fun K hK => ?_) AllReadyH.nil)
      go_simp
      with_reducible refine (FM.out _ hH.2).mono ?_
      rintro e w4 ⟨rfl, hb4'⟩
      have hb4 : Below (wa.heap.size) wa w4 := below_next hH.2 hb4'
      try go_wp2_with fail
      refine hK.out _ _ (KP.out _ hb4) (fun hH4 => ?_)
      clear hK K hH
      have hH := hH4
      clear hH4
      try simp only [Act.put, List.getElem_toArray, List.getElem_cons_succ, List.getElem_cons_zero, List.setIfInBounds_toArray, List.set_cons_zero, List.set_cons_succ]
      first | (refine wpAnyH_take (i := 13) (v := undef) rfl ?_ ?_ ?_ (fun _ _ _ h => h) ?_ ?_ ?_; kernel_rfl; kernel_rfl; kernel_rfl; exact Or.inr ⟨by rfl, rfl⟩; exact hH) | (refine wpAnyH_take (i := 13) (v := ?_) rfl ?_ ?_ ?_ (fun _ _ _ h => h) ?_ ?_ ?_; rotate_left; kernel_rfl; kernel_rfl; kernel_rfl; (focus (refine Or.inl ⟨by rfl, ?_⟩; intro w' hSw; (try dsimp only at hSw); go_simp)); exact hH) | (refine wpAnyH_take (i := 13) (v := ?_) rfl ?_ ?_ ?_ (fun _ _ _ h => h) ?_ ?_ ?_; rotate_left; kernel_rfl; kernel_rfl; kernel_rfl; (focus (refine Or.inl ⟨by rfl, ?_⟩; intro w' hSw; (try dsimp only at hSw); go_simp; with_reducible rfl)); exact hH)
      try simp only [Act.put, List.getElem_toArray, List.getElem_cons_succ, List.getElem_cons_zero, List.setIfInBounds_toArray, List.set_cons_zero, List.set_cons_succ]
      first | (refine wpAnyH_take (i := 14) (v := undef) rfl ?_ ?_ ?_ (fun _ _ _ h => h) ?_ ?_ ?_; kernel_rfl; kernel_rfl; kernel_rfl; exact Or.inr ⟨by rfl, rfl⟩; exact hH) | (refine wpAnyH_take (i := 14) (v := ?_) rfl ?_ ?_ ?_ (fun _ _ _ h => h) ?_ ?_ ?_; rotate_left; kernel_rfl; kernel_rfl; kernel_rfl; (focus (refine Or.inl ⟨by rfl, ?_⟩; intro w' hSw; (try dsimp only at hSw); go_simp)); exact hH) | (refine wpAnyH_take (i := 14) (v := ?_) rfl ?_ ?_ ?_ (fun _ _ _ h => h) ?_ ?_ ?_; rotate_left; kernel_rfl; kernel_rfl; kernel_rfl; (focus (refine Or.inl ⟨by rfl, ?_⟩; intro w' hSw; (try dsimp only at hSw); go_simp; with_reducible rfl)); exact hH)
      try simp only [Act.put, List.getElem_toArray, List.getElem_cons_succ, List.getElem_cons_zero, List.setIfInBounds_toArray, List.set_cons_zero, List.set_cons_succ]
      first | (refine wpAnyH_take (i := 15) (v := undef) rfl ?_ ?_ ?_ (fun _ _ _ h => h) ?_ ?_ ?_; kernel_rfl; kernel_rfl; kernel_rfl; exact Or.inr ⟨by rfl, rfl⟩; exact hH) | (refine wpAnyH_take (i := 15) (v := ?_) rfl ?_ ?_ ?_ (fun _ _ _ h => h) ?_ ?_ ?_; rotate_left; kernel_rfl; kernel_rfl; kernel_rfl; (focus (refine Or.inl ⟨by rfl, ?_⟩; intro w' hSw; (try dsimp only at hSw); go_simp)); exact hH) | (refine wpAnyH_take (i := 15) (v := ?_) rfl ?_ ?_ ?_ (fun _ _ _ h => h) ?_ ?_ ?_; rotate_left; kernel_rfl; kernel_rfl; kernel_rfl; (focus (refine Or.inl ⟨by rfl, ?_⟩; intro w' hSw; (try dsimp only at hSw); go_simp; with_reducible rfl)); exact hH)
      try simp only [Act.put, List.getElem_toArray, List.getElem_cons_succ, List.getElem_cons_zero, List.setIfInBounds_toArray, List.set_cons_zero, List.set_cons_succ]
      first | (refine wpAnyH_take (i := 16) (v := undef) rfl ?_ ?_ ?_ (fun _ _ _ h => h) ?_ ?_ ?_; kernel_rfl; kernel_rfl; kernel_rfl; exact Or.inr ⟨by rfl, rfl⟩; exact hH) | (refine wpAnyH_take (i := 16) (v := ?_) rfl ?_ ?_ ?_ (fun _ _ _ h => h) ?_ ?_ ?_; rotate_left; kernel_rfl; kernel_rfl; kernel_rfl; (focus (refine Or.inl ⟨by rfl, ?_⟩; intro w' hSw; (try dsimp only at hSw); go_simp)); exact hH) | (refine wpAnyH_take (i := 16) (v := ?_) rfl ?_ ?_ ?_ (fun _ _ _ h => h) ?_ ?_ ?_; rotate_left; kernel_rfl; kernel_rfl; kernel_rfl; (focus (refine Or.inl ⟨by rfl, ?_⟩; intro w' hSw; (try dsimp only at hSw); go_simp; with_reducible rfl)); exact hH)
      try simp only [Act.put, List.getElem_toArray, List.getElem_cons_succ, List.getElem_cons_zero, List.setIfInBounds_toArray, List.set_cons_zero, List.set_cons_succ]
      refine wpAnyH_done (by kernel_rfl) ?_ _
      refine NoPanic.normal ?_
      clear hH
      have hbG := hb4
      try clear hH
      have h4 := HX.out.1.next hbG
      have b4 := HX.out.2.next hbG
      have hown4 : Hid (∃ A' c', v = .slice A' D.length c' ∧ (0 < D.length → ∃ (g' : Nat) (cs : Array Value), A' = some ⟨g', 0, none⟩ ∧ Blk w4 g' 3 cs ∧ ∀ (j : Nat) (u : Value), (D.map idVal)[j]? = some u → cs[j]? = some u)) := by
        obtain ⟨A', c', e, -, hr⟩ := row_form HD.out.2.1
        refine ⟨A', c', e, fun h0 => ?_⟩
        obtain ⟨g', cs, e2, -, hb2, hc2⟩ := hr h0
        exact ⟨g', cs, e2, hb2.next (below_next hb3' hb4'), hc2⟩
      obtain ⟨wb, rfl⟩ : ∃ x : World, x = w4 := ⟨_, rfl⟩
      have H4 := Lib.hid (And.intro h4 b4)
      clear hbG h4 b4 KP FV FU FM FI
      obtain ⟨A', c', rfl, hrow⟩ := hown4
      have HROW := Lib.hid hrow
      clear hrow
      clear hbR hb1' hb1 hz2 hb3' hb3 hb4' hb4
      obtain ⟨l, hll⟩ : ∃ l, D.length = l := ⟨_, rfl⟩
      rw [hll]
      have HLL := Lib.hid hll
      clear hll
      have e5 : wrap64 ((i : Int) + 1) = ((i + 1 : Nat) : Int) := by have := HN.out; have := HLT.out; unfold wrap64; omega
      go_upto_if 44 with (fail)
      go_cut [11, 12] (fun lv hv wc => ∃ lo hi, lv = .int .u64 lo ∧ hv = .int .u64 hi ∧ Below wb.heap.size wb wc ∧ (D ≠ [] → lo = lowOf (ups S.L) ∧ hi = highOf (ups S.L)))
      case first =>
        rcases Nat.eq_zero_or_pos l with hz | hz
        · have hD0 : D = [] := List.length_eq_zero_iff.1 (HLL.out.trans hz)
          subst hz
          have HD0 := Lib.hid hD0
          clear hD0
          go_wp2_with fail
          go_meet
          exact ⟨0, 0, rfl, rfl, Below.refl _ _, fun e => absurd HD0.out e⟩
        · have hll := HLL.out
          obtain ⟨m, hm⟩ : ∃ m, D.length = m + 1 := ⟨D.length - 1, by omega⟩
          obtain ⟨g', cs, rfl, hbg, hcs⟩ := HROW.out (by omega)
          have hv := HF.out.2.vok
          have f0 := (ids_first HD.out.1 hv (j := 0) (by omega)).1 rfl
          have f1 := (ids_first HD.out.1 hv (j := m) (by omega)).2 hm.symm
          have i0 := ids_mem HD.out.1 (List.getElem_mem (show 0 < D.length by omega))
          have i1 := ids_mem HD.out.1 (List.getElem_mem (show m < D.length by omega))
          have q0 : cs[0]? = some (.int .i64 (D[0]'(by omega)).id) := hcs 0 _ (by rw [List.getElem?_map, List.getElem?_eq_getElem (by omega)]; rfl)
          have q1 : cs[m]? = some (.int .i64 (D[m]'(by omega)).id) := hcs m _ (by rw [List.getElem?_map, List.getElem?_eq_getElem (by omega)]; rfl)
          generalize (D[0]'(by omega)) = y0 at f0 i0 q0
          generalize (D[m]'(by omega)) = y1 at f1 i1 q1
          have FV0 := Lib.hid (fun w' (hb : Below wb.heap.size wb w') => (fi_v y0.id (H4.out.1.next hb)).mono (fun e w'' (h : e = .returned (.int .u64 (vOf y0.id S.L)) ∧ w' = w'') => (⟨by rw [h.1, vOf_some (fnd_of_mem HF.out.1.fam.ids i0.1), f0], h.2 ▸ Below.refl _ _⟩ : e = .returned (.int .u64 (lowOf (ups S.L))) ∧ Below w'.heap.size w' w'')))
          have FV1 := Lib.hid (fun w' (hb : Below wb.heap.size wb w') => (fi_v y1.id (H4.out.1.next hb)).mono (fun e w'' (h : e = .returned (.int .u64 (vOf y1.id S.L)) ∧ w' = w'') => (⟨by rw [h.1, vOf_some (fnd_of_mem HF.out.1.fam.ids i1.1), f1], h.2 ▸ Below.refl _ _⟩ : e = .returned (.int .u64 (highOf (ups S.L))) ∧ Below w'.heap.size w' w'')))
          obtain ⟨lo, hlo⟩ : ∃ z, lowOf (ups S.L) = z := ⟨_, rfl⟩
          obtain ⟨hi', hhi⟩ : ∃ z, highOf (ups S.L) = z := ⟨_, rfl⟩
          rw [hlo] at FV0
          rw [hhi] at FV1
          have HLH := Lib.hid (And.intro hlo hhi)
          have e7 : wrap64 ((l : Int) - 1) = (m : Int) := by
            have := HF.out.2.len
            have e1 := HD.out.1.1.length_eq
            have e2 : (ups S.L).length ≤ S.L.length := List.length_filter_le ..
            have := HLT.out
            have := HN.out
            unfold wrap64
            omega
          have e7b : IntKind.i64.wrap ((l : Int) - 1) = (m : Int) := by rw [IntKind.wrap_i64]; unfold wrap64 at e7; exact e7
          have e8 : (0 : Int) < (l : Int) := by omega
          have e9 : (m : Int) < (l : Int) := by omega
          have e10 : (0 : Int) ≤ (m : Int) := by omega
          have d1 : decide ((0 : Int) < (l : Int)) = true := decide_eq_true e8
          have d2 : 0 < l := by omega
          have d3 : m < l := by omega
          have HBG := Lib.hid (And.intro hbg (And.intro q0 q1))
          clear hz hm hll hcs hbg q0 q1 hv f0 f1 i0 i1 hlo hhi
          go_upto_region 14 with (fail)
          have KR : Hid (∀ w', Below (wb.heap.size) wb w' → (w'.cell? ⟨g', 0, none⟩ = some (.int .i64 y0.id) ∧ w'.cell? ⟨g', m, none⟩ = some (.int .i64 y1.id)) ∧ Below (wb.heap.size) wb w') := fun w' hb => ⟨⟨(HBG.out.1.next hb).get 0 HBG.out.2.1, (HBG.out.1.next hb).get m HBG.out.2.2⟩, hb⟩
          refine wp_region_noPanic ?_
          refine wp_region_held_drew (S := fun w' => (w'.cell? ⟨g', 0, none⟩ = some (.int .i64 y0.id) ∧ w'.cell? ⟨g', m, none⟩ = some (.int .i64 y1.id)) ∧ Below (wb.heap.size) wb w') (by kernel_rfl) (KR.out _ (below_of_drew ((Below.refl wb.heap.size wb)))) (fun hH => ?_)
          have hbR := below_of_drew ((Below.refl wb.heap.size wb))
          first | (refine wpAnyH_take (i := 0) (v := undef) rfl ?_ ?_ ?_ (fun _ _ _ h => h) ?_ ?_ ?_; kernel_rfl; kernel_rfl; kernel_rfl; exact Or.inr ⟨by rfl, rfl⟩; exact hH) | (refine wpAnyH_take (i := 0) (v := ?_) rfl ?_ ?_ ?_ (fun _ _ _ h => h) ?_ ?_ ?_; rotate_left; kernel_rfl; kernel_rfl; kernel_rfl; (focus (refine Or.inl ⟨by rfl, ?_⟩; intro w' hSw; (try dsimp only at hSw); go_simp)); exact hH) | (refine wpAnyH_take (i := 0) (v := ?_) rfl ?_ ?_ ?_ (fun _ _ _ h => h) ?_ ?_ ?_; rotate_left; kernel_rfl; kernel_rfl; kernel_rfl; (focus (refine Or.inl ⟨by rfl, ?_⟩; intro w' hSw; (try dsimp only at hSw); go_simp; with_reducible rfl)); exact hH)
          try simp only [Act.put, List.getElem_toArray, List.getElem_cons_succ, List.getElem_cons_zero, List.setIfInBounds_toArray, List.set_cons_zero, List.set_cons_succ]
          first | (refine wpAnyH_take (i := 1) (v := undef) rfl ?_ ?_ ?_ (fun _ _ _ h => h) ?_ ?_ ?_; kernel_rfl; kernel_rfl; kernel_rfl; exact Or.inr ⟨by rfl, rfl⟩; exact hH) | (refine wpAnyH_take (i := 1) (v := ?_) rfl ?_ ?_ ?_ (fun _ _ _ h => h) ?_ ?_ ?_; rotate_left; kernel_rfl; kernel_rfl; kernel_rfl; (focus (refine Or.inl ⟨by rfl, ?_⟩; intro w' hSw; (try dsimp only at hSw); go_simp)); exact hH) | (refine wpAnyH_take (i := 1) (v := ?_) rfl ?_ ?_ ?_ (fun _ _ _ h => h) ?_ ?_ ?_; rotate_left; kernel_rfl; kernel_rfl; kernel_rfl; (focus (refine Or.inl ⟨by rfl, ?_⟩; intro w' hSw; (try dsimp only at hSw); go_simp; with_reducible rfl)); exact hH)
          try simp only [Act.put, List.getElem_toArray, List.getElem_cons_succ, List.getElem_cons_zero, List.setIfInBounds_toArray, List.set_cons_zero, List.set_cons_succ]
          first | (refine wpAnyH_take (i := 2) (v := undef) rfl ?_ ?_ ?_ (fun _ _ _ h => h) ?_ ?_ ?_; kernel_rfl; kernel_rfl; kernel_rfl; exact Or.inr ⟨by rfl, rfl⟩; exact hH) | (refine wpAnyH_take (i := 2) (v := ?_) rfl ?_ ?_ ?_ (fun _ _ _ h => h) ?_ ?_ ?_; rotate_left; kernel_rfl; kernel_rfl; kernel_rfl; (focus (refine Or.inl ⟨by rfl, ?_⟩; intro w' hSw; (try dsimp only at hSw); go_simp)); exact hH) | (refine wpAnyH_take (i := 2) (v := ?_) rfl ?_ ?_ ?_ (fun _ _ _ h => h) ?_ ?_ ?_; rotate_left; kernel_rfl; kernel_rfl; kernel_rfl; (focus (refine Or.inl ⟨by rfl, ?_⟩; intro w' hSw; (try dsimp only at hSw); go_simp; with_reducible rfl)); exact hH)
          try simp only [Act.put, List.getElem_toArray, List.getElem_cons_succ, List.getElem_cons_zero, List.setIfInBounds_toArray, List.set_cons_zero, List.set_cons_succ]
          first | (refine wpAnyH_take (i := 3) (v := undef) rfl ?_ ?_ ?_ (fun _ _ _ h => h) ?_ ?_ ?_; kernel_rfl; kernel_rfl; kernel_rfl; exact Or.inr ⟨by rfl, rfl⟩; exact hH) | (refine wpAnyH_take (i := 3) (v := ?_) rfl ?_ ?_ ?_ (fun _ _ _ h => h) ?_ ?_ ?_; rotate_left; kernel_rfl; kernel_rfl; kernel_rfl; (focus (refine Or.inl ⟨by rfl, ?_⟩; intro w' hSw; (try dsimp only at hSw); go_simp)); exact hH) | (refine wpAnyH_take (i := 3) (v := ?_) rfl ?_ ?_ ?_ (fun _ _ _ h => h) ?_ ?_ ?_; rotate_left; kernel_rfl; kernel_rfl; kernel_rfl; (focus (refine Or.inl ⟨by rfl, ?_⟩; intro w' hSw; (try dsimp only at hSw); go_simp; with_reducible rfl)); exact hH)
          try simp only [Act.put, List.getElem_toArray, List.getElem_cons_succ, List.getElem_cons_zero, List.setIfInBounds_toArray, List.set_cons_zero, List.set_cons_succ]
          first | (refine wpAnyH_take (i := 5) (v := undef) rfl ?_ ?_ ?_ (fun _ _ _ h => h) ?_ ?_ ?_; kernel_rfl; kernel_rfl; kernel_rfl; exact Or.inr ⟨by rfl, rfl⟩; exact hH) | (refine wpAnyH_take (i := 5) (v := ?_) rfl ?_ ?_ ?_ (fun _ _ _ h => h) ?_ ?_ ?_; rotate_left; kernel_rfl; kernel_rfl; kernel_rfl; (focus (refine Or.inl ⟨by rfl, ?_⟩; intro w' hSw; (try dsimp only at hSw); go_simp)); exact hH) | (refine wpAnyH_take (i := 5) (v := ?_) rfl ?_ ?_ ?_ (fun _ _ _ h => h) ?_ ?_ ?_; rotate_left; kernel_rfl; kernel_rfl; kernel_rfl; (focus (refine Or.inl ⟨by rfl, ?_⟩; intro w' hSw; (try dsimp only at hSw); go_simp; with_reducible rfl)); exact hH)
          try simp only [Act.put, List.getElem_toArray, List.getElem_cons_succ, List.getElem_cons_zero, List.setIfInBounds_toArray, List.set_cons_zero, List.set_cons_succ]
          first | (refine wpAnyH_take (i := 6) (v := undef) rfl ?_ ?_ ?_ (fun _ _ _ h => h) ?_ ?_ ?_; kernel_rfl; kernel_rfl; kernel_rfl; exact Or.inr ⟨by rfl, rfl⟩; exact hH) | (refine wpAnyH_take (i := 6) (v := ?_) rfl ?_ ?_ ?_ (fun _ _ _ h => h) ?_ ?_ ?_; rotate_left; kernel_rfl; kernel_rfl; kernel_rfl; (focus (refine Or.inl ⟨by rfl, ?_⟩; intro w' hSw; (try dsimp only at hSw); go_simp)); exact hH) | (refine wpAnyH_take (i := 6) (v := ?_) rfl ?_ ?_ ?_ (fun _ _ _ h => h) ?_ ?_ ?_; rotate_left; kernel_rfl; kernel_rfl; kernel_rfl; (focus (refine Or.inl ⟨by rfl, ?_⟩; intro w' hSw; (try dsimp only at hSw); go_simp; with_reducible rfl)); exact hH)
          try simp only [Act.put, List.getElem_toArray, List.getElem_cons_succ, List.getElem_cons_zero, List.setIfInBounds_toArray, List.set_cons_zero, List.set_cons_succ]
          first | (refine wpAnyH_take (i := 7) (v := undef) rfl ?_ ?_ ?_ (fun _ _ _ h => h) ?_ ?_ ?_; kernel_rfl; kernel_rfl; kernel_rfl; exact Or.inr ⟨by rfl, rfl⟩; exact hH) | (refine wpAnyH_take (i := 7) (v := ?_) rfl ?_ ?_ ?_ (fun _ _ _ h => h) ?_ ?_ ?_; rotate_left; kernel_rfl; kernel_rfl; kernel_rfl; (focus (refine Or.inl ⟨by rfl, ?_⟩; intro w' hSw; (try dsimp only at hSw); go_simp)); exact hH) | (refine wpAnyH_take (i := 7) (v := ?_) rfl ?_ ?_ ?_ (fun _ _ _ h => h) ?_ ?_ ?_; rotate_left; kernel_rfl; kernel_rfl; kernel_rfl; (focus (refine Or.inl ⟨by rfl, ?_⟩; intro w' hSw; (try dsimp only at hSw); go_simp; with_reducible rfl)); exact hH)
          try simp only [Act.put, List.getElem_toArray, List.getElem_cons_succ, List.getElem_cons_zero, List.setIfInBounds_toArray, List.set_cons_zero, List.set_cons_succ]
          first | (refine wpAnyH_take (i := 8) (v := undef) rfl ?_ ?_ ?_ (fun _ _ _ h => h) ?_ ?_ ?_; kernel_rfl; kernel_rfl; kernel_rfl; exact Or.inr ⟨by rfl, rfl⟩; exact hH) | (refine wpAnyH_take (i := 8) (v := ?_) rfl ?_ ?_ ?_ (fun _ _ _ h => h) ?_ ?_ ?_; rotate_left; kernel_rfl; kernel_rfl; kernel_rfl; (focus (refine Or.inl ⟨by rfl, ?_⟩; intro w' hSw; (try dsimp only at hSw); go_simp)); exact hH) | (refine wpAnyH_take (i := 8) (v := ?_) rfl ?_ ?_ ?_ (fun _ _ _ h => h) ?_ ?_ ?_; rotate_left; kernel_rfl; kernel_rfl; kernel_rfl; (focus (refine Or.inl ⟨by rfl, ?_⟩; intro w' hSw; (try dsimp only at hSw); go_simp; with_reducible rfl)); exact hH)
          try simp only [Act.put, List.getElem_toArray, List.getElem_cons_succ, List.getElem_cons_zero, List.setIfInBounds_toArray, List.set_cons_zero, List.set_cons_succ]
          first | (refine wpAnyH_take (i := 9) (v := undef) rfl ?_ ?_ ?_ (fun _ _ _ h => h) ?_ ?_ ?_; kernel_rfl; kernel_rfl; kernel_rfl; exact Or.inr ⟨by rfl, rfl⟩; exact hH) | (refine wpAnyH_take (i := 9) (v := ?_) rfl ?_ ?_ ?_ (fun _ _ _ h => h) ?_ ?_ ?_; rotate_left; kernel_rfl; kernel_rfl; kernel_rfl; (focus (refine Or.inl ⟨by rfl, ?_⟩; intro w' hSw; (try dsimp only at hSw); go_simp)); exact hH) | (refine wpAnyH_take (i := 9) (v := ?_) rfl ?_ ?_ ?_ (fun _ _ _ h => h) ?_ ?_ ?_; rotate_left; kernel_rfl; kernel_rfl; kernel_rfl; (focus (refine Or.inl ⟨by rfl, ?_⟩; intro w' hSw; (try dsimp only at hSw); go_simp; with_reducible rfl)); exact hH)
          try simp only [Act.put, List.getElem_toArray, List.getElem_cons_succ, List.getElem_cons_zero, List.setIfInBounds_toArray, List.set_cons_zero, List.set_cons_succ]
          first | (refine wpAnyH_take (i := 10) (v := undef) rfl ?_ ?_ ?_ (fun _ _ _ h => h) ?_ ?_ ?_; kernel_rfl; kernel_rfl; kernel_rfl; exact Or.inr ⟨by rfl, rfl⟩; exact hH) | (refine wpAnyH_take (i := 10) (v := ?_) rfl ?_ ?_ ?_ (fun _ _ _ h => h) ?_ ?_ ?_; rotate_left; kernel_rfl; kernel_rfl; kernel_rfl; (focus (refine Or.inl ⟨by rfl, ?_⟩; intro w' hSw; (try dsimp only at hSw); go_simp)); exact hH) | (refine wpAnyH_take (i := 10) (v := ?_) rfl ?_ ?_ ?_ (fun _ _ _ h => h) ?_ ?_ ?_; rotate_left; kernel_rfl; kernel_rfl; kernel_rfl; (focus (refine Or.inl ⟨by rfl, ?_⟩; intro w' hSw; (try dsimp only at hSw); go_simp; with_reducible rfl)); exact hH)
          try simp only [Act.put, List.getElem_toArray, List.getElem_cons_succ, List.getElem_cons_zero, List.setIfInBounds_toArray, List.set_cons_zero, List.set_cons_succ]
          first | (refine wpAnyH_take (i := 11) (v := undef) rfl ?_ ?_ ?_ (fun _ _ _ h => h) ?_ ?_ ?_; kernel_rfl; kernel_rfl; kernel_rfl; exact Or.inr ⟨by rfl, rfl⟩; exact hH) | (refine wpAnyH_take (i := 11) (v := ?_) rfl ?_ ?_ ?_ (fun _ _ _ h => h) ?_ ?_ ?_; rotate_left; kernel_rfl; kernel_rfl; kernel_rfl; (focus (refine Or.inl ⟨by rfl, ?_⟩; intro w' hSw; (try dsimp only at hSw); go_simp)); exact hH) | (refine wpAnyH_take (i := 11) (v := ?_) rfl ?_ ?_ ?_ (fun _ _ _ h => h) ?_ ?_ ?_; rotate_left; kernel_rfl; kernel_rfl; kernel_rfl; (focus (refine Or.inl ⟨by rfl, ?_⟩; intro w' hSw; (try dsimp only at hSw); go_simp; with_reducible rfl)); exact hH)
          try simp only [Act.put, List.getElem_toArray, List.getElem_cons_succ, List.getElem_cons_zero, List.setIfInBounds_toArray, List.set_cons_zero, List.set_cons_succ]
          refine wpAnyH_ready (rs := [4]) (by kernel_rfl) (by simp) ?_
          refine (AllReadyH.cons rfl (fun K hK => ?_) AllReadyH.nil)
          go_simp
          with_reducible refine (FV0.out _ hH.2).mono ?_
          rintro e w1 ⟨rfl, hb1'⟩
          have hb1 : Below (wb.heap.size) wb w1 := below_next hH.2 hb1'
          try go_wp2_with fail
          refine hK.out _ _ (KR.out _ hb1) (fun hH1 => ?_)
          clear hK K hH
          have hH := hH1
          clear hH1
          try simp only [Act.put, List.getElem_toArray, List.getElem_cons_succ, List.getElem_cons_zero, List.setIfInBounds_toArray, List.set_cons_zero, List.set_cons_succ]
          refine wpAnyH_ready (rs := [12]) (by kernel_rfl) (by simp) ?_
          refine (AllReadyH.cons rfl (fun K hK => ?_) AllReadyH.nil)
          go_simp
          with_reducible refine (FV1.out _ hH.2).mono ?_
          rintro e w2 ⟨rfl, hb2'⟩
          have hb2 : Below (wb.heap.size) wb w2 := below_next hH.2 hb2'
          try go_wp2_with fail
          refine hK.out _ _ (KR.out _ hb2) (fun hH2 => ?_)
          clear hK K hH
          have hH := hH2
          clear hH2
          try simp only [Act.put, List.getElem_toArray, List.getElem_cons_succ, List.getElem_cons_zero, List.setIfInBounds_toArray, List.set_cons_zero, List.set_cons_succ]
          first | (refine wpAnyH_take (i := 13) (v := undef) rfl ?_ ?_ ?_ (fun _ _ _ h => h) ?_ ?_ ?_; kernel_rfl; kernel_rfl; kernel_rfl; exact Or.inr ⟨by rfl, rfl⟩; exact hH) | (refine wpAnyH_take (i := 13) (v := ?_) rfl ?_ ?_ ?_ (fun _ _ _ h => h) ?_ ?_ ?_; rotate_left; kernel_rfl; kernel_rfl; kernel_rfl; (focus (refine Or.inl ⟨by rfl, ?_⟩; intro w' hSw; (try dsimp only at hSw); go_simp)); exact hH) | (refine wpAnyH_take (i := 13) (v := ?_) rfl ?_ ?_ ?_ (fun _ _ _ h => h) ?_ ?_ ?_; rotate_left; kernel_rfl; kernel_rfl; kernel_rfl; (focus (refine Or.inl ⟨by rfl, ?_⟩; intro w' hSw; (try dsimp only at hSw); go_simp; with_reducible rfl)); exact hH)
          try simp only [Act.put, List.getElem_toArray, List.getElem_cons_succ, List.getElem_cons_zero, List.setIfInBounds_toArray, List.set_cons_zero, List.set_cons_succ]
          first | (refine wpAnyH_take (i := 14) (v := undef) rfl ?_ ?_ ?_ (fun _ _ _ h => h) ?_ ?_ ?_; kernel_rfl; kernel_rfl; kernel_rfl; exact Or.inr ⟨by rfl, rfl⟩; exact hH) | (refine wpAnyH_take (i := 14) (v := ?_) rfl ?_ ?_ ?_ (fun _ _ _ h => h) ?_ ?_ ?_; rotate_left; kernel_rfl; kernel_rfl; kernel_rfl; (focus (refine Or.inl ⟨by rfl, ?_⟩; intro w' hSw; (try dsimp only at hSw); go_simp)); exact hH) | (refine wpAnyH_take (i := 14) (v := ?_) rfl ?_ ?_ ?_ (fun _ _ _ h => h) ?_ ?_ ?_; rotate_left; kernel_rfl; kernel_rfl; kernel_rfl; (focus (refine Or.inl ⟨by rfl, ?_⟩; intro w' hSw; (try dsimp only at hSw); go_simp; with_reducible rfl)); exact hH)
          try simp only [Act.put, List.getElem_toArray, List.getElem_cons_succ, List.getElem_cons_zero, List.setIfInBounds_toArray, List.set_cons_zero, List.set_cons_succ]
          refine wpAnyH_done (by kernel_rfl) ?_ _
          refine NoPanic.normal ?_
          clear hH
          have hbG := hb2
          go_wp2_with fail
          go_meet
          exact ⟨lo, hi', rfl, rfl, hbG, fun _ => ⟨HLH.out.1.symm, HLH.out.2.symm⟩⟩
      case rest =>
        obtain ⟨lo, hi', rfl, rfl, hbc, hlh⟩ := hcut
        obtain ⟨wd, rfl⟩ : ∃ x : World, x = wc := ⟨_, rfl⟩
        have H5 := Lib.hid (And.intro (H4.out.1.next hbc) (H4.out.2.next hbc))
        have HLH := Lib.hid hlh
        clear hbc hlh HROW H4
        have hlh := HLH.out
        have z0 := H5.out.2.get 0 rfl
        have z1 := H5.out.2.get 1 rfl
        obtain ⟨r, hr⟩ : ∃ r, k.tmod 6 = r := ⟨_, rfl⟩
        by_cases h0 : r = 0
        · subst h0
          have z2 := H5.out.2.get 2 rfl
          have z3 := H5.out.2.get 3 rfl
          have z4 := H5.out.2.get 4 rfl
          have AD := Lib.hid (fi_add id xF xL xR H5.out.1 HWI.out.1 HWI.out.2.1 HWI.out.2.2.1)
          go_wp2_with fail
          with_reducible refine (AD.out).mono ?_
          rintro e wz ⟨rfl, S', had, hfz, hsp⟩
          obtain ⟨ok', hk'⟩ := added_ok had HF.out.2
          have bz := hsp B _ _ (by decide) (by decide) (by decide) (by decide) H5.out.2
          have HT := Lib.hid (And.intro hfz (And.intro ok' (And.intro hk' bz)))
          have z1 := bz.get 1 rfl
          obtain ⟨ad, had2⟩ : ∃ z, addR id xF xL xR S = z := ⟨_, rfl⟩
          rw [had2]
          have HAD : Hid (ad = true → vOf id S'.L = 0 ∧ tOf id S'.L = 0 ∧ upOf id S'.L = false) := fun e => added_new had (had2.trans e)
          clear had hfz hsp ok' hk' bz had2 AD
          cases ad with
          | false =>
            go_wp2_with fail
            go_roundg gm
            case rel => exact ⟨i + 1, S', by have := HII.out; omega, by go_num, by rw [HT.out.2.2.1, HV.out.2.2], HT.out.1, HT.out.2.1⟩
            case measure => omega
          | true =>
            obtain ⟨a1, a2, a3⟩ := HAD.out rfl
            have C1 := Lib.hid (fi_v id HT.out.1)
            have C2 := Lib.hid (fi_total id HT.out.1)
            have C3 := Lib.hid (fi_awake id HT.out.1)
            rw [a1] at C1
            rw [a2] at C2
            rw [a3] at C3
            clear a1 a2 a3
            go_wp2_with fail
            with_reducible refine (C1.out).mono ?_
            rintro e wx ⟨rfl, rfl⟩
            go_wp2_with fail
            with_reducible refine (C2.out).mono ?_
            rintro e wx ⟨rfl, rfl⟩
            go_wp2_with fail
            with_reducible refine (C3.out).mono ?_
            rintro e wx ⟨rfl, rfl⟩
            go_wp2_with fail
            go_roundg gm
            case rel => exact ⟨i + 1, S', by have := HII.out; omega, by go_num, by rw [HT.out.2.2.1, HV.out.2.2], HT.out.1, HT.out.2.1⟩
            case measure => omega
        have n0 : (r == 0) = false := beq_eq_false_iff_ne.2 h0
        have n0' : decide (r = 0) = false := decide_eq_false h0
        clear h0
        by_cases h1 : r = 1
        · subst h1
          have DR := Lib.hid (fi_drop id H5.out.1)
          go_wp2_with fail
          with_reducible refine (DR.out).mono ?_
          rintro e wz ⟨rfl, hfz, hsp⟩
          have MKK := Lib.hid (fi_mark hfz)
          rw [show (S.drop id).k = mk from HV.out.2.2] at MKK
          have HT := Lib.hid hfz
          clear hfz hsp DR
          go_wp2_with fail
          with_reducible refine (MKK.out).mono ?_
          rintro e wx ⟨rfl, rfl⟩
          go_wp2_with fail
          go_roundg gm
          case rel => exact ⟨i + 1, S.drop id, by have := HII.out; omega, by go_num, by rw [← HV.out.2.2]; rfl, HT.out, (HF.out.2.drop id).more (Nat.le_succ _)⟩
          case measure => omega
        have n1 : (r == 1) = false := beq_eq_false_iff_ne.2 h1
        have n1' : decide (r = 1) = false := decide_eq_false h1
        clear h1
        by_cases h2 : r = 2
        · subst h2
          have WK := Lib.hid (fi_wake id H5.out.1 HF.out.2 (by have := HLT.out; have := HN.out; omega))
          go_wp2_with fail
          with_reducible refine (WK.out).mono ?_
          rintro e wz ⟨rfl, hfz, hsp⟩
          obtain ⟨S', hS'⟩ : ∃ z, S.wake id = z := ⟨_, rfl⟩
          have hfine := fine_wake HF.out.2 id
          have hok' := HF.out.2.wake id
          rw [hS'] at hfz hfine hok'
          have HSW : Hid (S' = S.wake id) := hS'.symm
          have HT := Lib.hid (And.intro hfz (And.intro hok' (And.intro hfine (hsp B _ _ (by decide) (by decide) (by decide) (by decide) H5.out.2))))
          clear hfz hsp hfine hok' hS' WK
          have z1 := HT.out.2.2.2.get 1 rfl
          go_wp2_with fail
          with_reducible refine (fi_v id HT.out.1).mono ?_
          rintro e wx ⟨rfl, rfl⟩
          obtain ⟨v', hv'⟩ : ∃ z, vOf id S'.L = z := ⟨_, rfl⟩
          have HFI : Hid (S'.k = max mk v' ∧ was ≤ v') := by
            have h := HT.out.2.2.1
            unfold Fine at h
            rw [hv', HV.out.1, HV.out.2.2] at h
            exact h
          rw [hv']
          obtain ⟨mk', hmk'⟩ : ∃ z, S'.k = z := ⟨_, rfl⟩
          have HMK : Hid (max mk v' = mk') := by rw [← hmk']; exact HFI.out.1.symm
          have FMM := Lib.hid (fi_mark HT.out.1)
          rw [hmk'] at FMM
          have HVV := Lib.hid (And.intro hv' hmk')
          have d1 : decide (v' < was) = false := decide_eq_false (by have := HFI.out.2; omega)
          clear hv' hmk'
          go_wp2_with fail
          rw [HMK.out]
          try go_wp2_with fail
          with_reducible refine (FMM.out).mono ?_
          rintro e wx ⟨rfl, rfl⟩
          have z0 := HT.out.2.2.2.get 0 rfl

          cases upp with
          | true =>
            go_wp2_with fail
            go_roundg gm
            case rel => exact ⟨i + 1, S', by have := HII.out; omega, by go_num, by rw [HVV.out.2], HT.out.1, HT.out.2.1⟩
            case measure => omega

          | false =>
            have FUU := Lib.hid (fi_awake id HT.out.1)
            obtain ⟨up', hup'⟩ : ∃ z, upOf id S'.L = z := ⟨_, rfl⟩
            rw [hup'] at FUU
            have HUP := Lib.hid hup'
            clear hup'
            go_wp2_with fail
            with_reducible refine (FUU.out).mono ?_
            rintro e wx ⟨rfl, rfl⟩
            cases up' with
            | false =>
              go_wp2_with fail
              go_roundg gm
              case rel => exact ⟨i + 1, S', by have := HII.out; omega, by go_num, by rw [HVV.out.2], HT.out.1, HT.out.2.1⟩
              case measure => omega

            | true =>
              obtain ⟨x, hfx, hux⟩ : ∃ x, fnd id S.L = some x ∧ x.up = false := by
                have h1 := HUP.out
                have h2 := HV.out.2.1
                rw [HSW.out] at h1
                cases hf : fnd id S.L with
                | none =>
                  have : (S.wake id) = S := by unfold FS.wake; rw [hf]
                  rw [this, h2] at h1
                  cases h1
                | some x => exact ⟨x, rfl, by rw [upOf_some hf] at h2; exact h2⟩
              have WT := wake_tells HF.out.2 hfx hux
              rw [← HSW.out, HVV.out.1, HV.out.1, HV.out.2.2] at WT
              have HWT := Lib.hid WT
              clear WT hfx hux
              have hDl := HD.out.1.1
              by_cases hD0 : D = []
              · have hu0 : ups S.L = [] := by rw [hD0] at hDl; exact hDl.symm.eq_nil
                have hvm := HWT.out.1 hu0
                have d2 : (v' == max was mk) = true := beq_iff_eq.2 hvm
                have d3 : (v' != max was mk) = false := by rw [hvm]; simp
                have d4 : l = 0 := by rw [← HLL.out, hD0]; rfl
                have HX4 := Lib.hid (And.intro d2 d3)
                subst d4
                clear hDl hD0 hu0 d2
                rw [hvm] at *
                go_wp2_with fail
                go_roundg gm
                case rel => exact ⟨i + 1, S', by have := HII.out; omega, by go_num, by rw [HVV.out.2], HT.out.1, HT.out.2.1⟩
                case measure => omega

              · have hu0 : ups S.L ≠ [] := fun e => hD0 (by rw [e] at hDl; exact hDl.eq_nil)
                obtain ⟨e1, e2⟩ := hlh hD0
                have hvm := HWT.out.2 hu0
                rw [← e1, ← e2] at hvm
                have hpos : 0 < l := by rw [← HLL.out]; exact List.length_pos_iff.2 hD0
                have g1 : decide ((0 : Int) < (l : Int)) = true := decide_eq_true (by omega)
                have g2 : ((l : Int) == 0) = false := beq_eq_false_iff_ne.2 (by omega)
                have g3 : decide ((l : Int) = 0) = false := decide_eq_false (by omega)
                have g4 : decide (0 < l) = true := decide_eq_true hpos
                have g5 : decide (l = 0) = false := decide_eq_false (by omega)
                have g6 : (l == 0) = false := beq_eq_false_iff_ne.2 (by omega)
                by_cases hw : v' = was
                · have d2 : (v' != was) = false := by rw [hw]; simp
                  have HX4 := Lib.hid hw
                  clear hDl hD0 hu0 hpos e1 e2 hw hvm
                  go_wp2_with fail
                  go_roundg gm
                  case rel => exact ⟨i + 1, S', by have := HII.out; omega, by go_num, by rw [HVV.out.2], HT.out.1, HT.out.2.1⟩
                  case measure => omega

                · have d2 : (v' != was) = true := bne_iff_ne.2 hw
                  have d2b : (v' == was) = false := beq_eq_false_iff_ne.2 hw
                  have hvm := hvm.resolve_left hw
                  have d3 : decide (v' < lo) = false := decide_eq_false (by omega)
                  have d4 : decide (hi' < v') = false := decide_eq_false (by omega)
                  clear hDl hD0 hu0 hpos e1 e2 hw hvm
                  go_wp2_with fail
                  go_roundg gm
                  case rel => exact ⟨i + 1, S', by have := HII.out; omega, by go_num, by rw [HVV.out.2], HT.out.1, HT.out.2.1⟩
                  case measure => omega

        have n2 : (r == 2) = false := beq_eq_false_iff_ne.2 h2
        have n2' : decide (r = 2) = false := decide_eq_false h2
        clear h2
        by_cases h3 : r = 3
        · subst h3
          have SL := Lib.hid (fi_sleep id H5.out.1)
          go_wp2_with fail
          with_reducible refine (SL.out).mono ?_
          rintro e wz ⟨rfl, hfz, hsp⟩
          obtain ⟨S', hS'⟩ : ∃ z, S.sleep id = z := ⟨_, rfl⟩
          have hfine := fine_sleep HF.out.2 id
          have hok' := (HF.out.2.sleep id).more (Nat.le_succ _)
          rw [hS'] at hfz hfine hok'
          have HT := Lib.hid (And.intro hfz (And.intro hok' (And.intro hfine (hsp B _ _ (by decide) (by decide) (by decide) (by decide) H5.out.2))))
          clear hfz hsp hfine hok' hS' SL
          have z1 := HT.out.2.2.2.get 1 rfl
          go_wp2_with fail
          with_reducible refine (fi_v id HT.out.1).mono ?_
          rintro e wx ⟨rfl, rfl⟩
          obtain ⟨v', hv'⟩ : ∃ z, vOf id S'.L = z := ⟨_, rfl⟩
          have HFI : Hid (S'.k = max mk v' ∧ was ≤ v') := by
            have h := HT.out.2.2.1
            unfold Fine at h
            rw [hv', HV.out.1, HV.out.2.2] at h
            exact h
          rw [hv']
          obtain ⟨mk', hmk'⟩ : ∃ z, S'.k = z := ⟨_, rfl⟩
          have HMK : Hid (max mk v' = mk') := by rw [← hmk']; exact HFI.out.1.symm
          have FMM := Lib.hid (fi_mark HT.out.1)
          rw [hmk'] at FMM
          have HVV := Lib.hid (And.intro hv' hmk')
          have d1 : decide (v' < was) = false := decide_eq_false (by have := HFI.out.2; omega)
          clear hv' hmk'
          go_wp2_with fail
          rw [HMK.out]
          try go_wp2_with fail
          with_reducible refine (FMM.out).mono ?_
          rintro e wx ⟨rfl, rfl⟩
          have z0 := HT.out.2.2.2.get 0 rfl
          go_wp2_with fail

          go_roundg gm
          case rel => exact ⟨i + 1, S', by have := HII.out; omega, by go_num, by rw [HVV.out.2], HT.out.1, HT.out.2.1⟩
          case measure => omega

        have n3 : (r == 3) = false := beq_eq_false_iff_ne.2 h3
        have n3' : decide (r = 3) = false := decide_eq_false h3
        clear h3
        by_cases h4 : r = 4
        · subst h4
          have z5 := H5.out.2.get 5 rfl
          have GA := Lib.hid (fi_gain id g H5.out.1 HF.out.2 (by have := HLT.out; have := HN.out; omega) HWI.out.2.2.2)
          go_wp2_with fail
          with_reducible refine (GA.out).mono ?_
          rintro e wz ⟨rfl, hfz, hsp⟩
          obtain ⟨S', hS'⟩ : ∃ z, S.gain id g = z := ⟨_, rfl⟩
          have hfine := fine_gain HF.out.2 id HWI.out.2.2.2
          have hok' := (HF.out.2.gain id HWI.out.2.2.2).more (Nat.le_succ _)
          rw [hS'] at hfz hfine hok'
          have HT := Lib.hid (And.intro hfz (And.intro hok' (And.intro hfine (hsp B _ _ (by decide) (by decide) (by decide) (by decide) H5.out.2))))
          clear hfz hsp hfine hok' hS' GA
          have z1 := HT.out.2.2.2.get 1 rfl
          go_wp2_with fail
          with_reducible refine (fi_v id HT.out.1).mono ?_
          rintro e wx ⟨rfl, rfl⟩
          obtain ⟨v', hv'⟩ : ∃ z, vOf id S'.L = z := ⟨_, rfl⟩
          have HFI : Hid (S'.k = max mk v' ∧ was ≤ v') := by
            have h := HT.out.2.2.1
            unfold Fine at h
            rw [hv', HV.out.1, HV.out.2.2] at h
            exact h
          rw [hv']
          obtain ⟨mk', hmk'⟩ : ∃ z, S'.k = z := ⟨_, rfl⟩
          have HMK : Hid (max mk v' = mk') := by rw [← hmk']; exact HFI.out.1.symm
          have FMM := Lib.hid (fi_mark HT.out.1)
          rw [hmk'] at FMM
          have HVV := Lib.hid (And.intro hv' hmk')
          have d1 : decide (v' < was) = false := decide_eq_false (by have := HFI.out.2; omega)
          clear hv' hmk'
          go_wp2_with fail
          rw [HMK.out]
          try go_wp2_with fail
          with_reducible refine (FMM.out).mono ?_
          rintro e wx ⟨rfl, rfl⟩
          have z0 := HT.out.2.2.2.get 0 rfl
          go_wp2_with fail

          go_roundg gm
          case rel => exact ⟨i + 1, S', by have := HII.out; omega, by go_num, by rw [HVV.out.2], HT.out.1, HT.out.2.1⟩
          case measure => omega

        have n4 : (r == 4) = false := beq_eq_false_iff_ne.2 h4
        have n4' : decide (r = 4) = false := decide_eq_false h4
        clear h4
        obtain ⟨S', hS'⟩ : ∃ z, S = z := ⟨_, rfl⟩
        have hfine := fine_same HF.out.2 id
        have hok' := HF.out.2.more (Nat.le_succ i)
        have HT : Hid (FamIn ws.heap.size ws wd f mb S' ∧ S'.ok (i + 1) ∧ Fine id S S' ∧ Blk wd B 31 #[.int .u8 k, .int .i64 id, .int .u64 xF, .int .u64 xL, .int .u64 xR, .int .u64 g]) := by
          rw [← hS']
          exact ⟨H5.out.1, hok', hfine, H5.out.2⟩
        clear hfine hok' hS'
        have z1 := HT.out.2.2.2.get 1 rfl
        go_wp2_with fail
        with_reducible refine (fi_v id HT.out.1).mono ?_
        rintro e wx ⟨rfl, rfl⟩
        obtain ⟨v', hv'⟩ : ∃ z, vOf id S'.L = z := ⟨_, rfl⟩
        have HFI : Hid (S'.k = max mk v' ∧ was ≤ v') := by
          have h := HT.out.2.2.1
          unfold Fine at h
          rw [hv', HV.out.1, HV.out.2.2] at h
          exact h
        rw [hv']
        obtain ⟨mk', hmk'⟩ : ∃ z, S'.k = z := ⟨_, rfl⟩
        have HMK : Hid (max mk v' = mk') := by rw [← hmk']; exact HFI.out.1.symm
        have FMM := Lib.hid (fi_mark HT.out.1)
        rw [hmk'] at FMM
        have HVV := Lib.hid (And.intro hv' hmk')
        have d1 : decide (v' < was) = false := decide_eq_false (by have := HFI.out.2; omega)
        clear hv' hmk'
        go_wp2_with fail
        rw [HMK.out]
        try go_wp2_with fail
        with_reducible refine (FMM.out).mono ?_
        rintro e wx ⟨rfl, rfl⟩
        have z0 := HT.out.2.2.2.get 0 rfl
        go_wp2_with fail

        go_roundg gm
        case rel => exact ⟨i + 1, S', by have := HII.out; omega, by go_num, by rw [HVV.out.2], HT.out.1, HT.out.2.1⟩
        case measure => omega

    · obtain rfl : gk = 0 := by omega
      have d1 : decide ((i : Int) < (n : Int)) = false := decide_eq_false (by omega)
      have d2 : decide (i < n) = false := decide_eq_false hlt
      clear hlt
      go_wp2_with fail
      go_ret
      exact ⟨by simp, HB.out.trans (HF.out.1.below.mono HB.out.size)⟩

end Go.Proofs.Ytjhffbhjiflfeaa
