/-
  The document's Reply.
-/
import Derived.Test.YtbageagobalgbaaDoorProg
import Derived.Test.YtbageagobalgbaaDoorCmdRC
namespace Go.Proofs.YtbageagobalgbaaDoor
set_option linter.unusedVariables false
set_option linter.unusedSimpArgs false
set_option maxRecDepth 100000
open Go.RowKit

theorem ref_numbers (c : Nat → Int) (w : World) :
    Calls Tryd.prog 24 #[.agg (partA replyT 2 8 c).toArray] w fun e w' => ∃ p, e = .returned (.slice (some ⟨p, 0, none⟩) 8 8) ∧ Blk w' p 22 #[.int .u64 (c 2), .int .u64 (c 3), .int .u64 (c 4), .int .u64 (c 5), .int .u64 (c 6), .int .u64 (c 7), .int .u64 (c 8), .int .u64 (c 9)] ∧ w.heap.size ≤ p ∧ Below w.heap.size w w' := by
  have e : (partA replyT 2 8 c).toArray = #[.int .u64 (c 2), .int .u64 (c 3), .int .u64 (c 4), .int .u64 (c 5), .int .u64 (c 6), .int .u64 (c 7), .int .u64 (c 8), .int .u64 (c 9)] := rfl
  rw [e]
  clear e
  go_enter Tryd.func24, Tryd.ntmps24
  go_wp2_with fail
  go_ret
  exact ⟨w.heap.size + 1, by simp, Blk.new_at (by simp), by omega, by go_grown⟩
theorem stat_get (c : Nat → Int) : ∀ i, i < 8 → (#[.int .u64 (c 2), .int .u64 (c 3), .int .u64 (c 4), .int .u64 (c 5), .int .u64 (c 6), .int .u64 (c 7), .int .u64 (c 8), .int .u64 (c 9)] : Array Value)[i]? = some (.int .u64 (c (i + 2)))
  | 0, _ => rfl
  | 1, _ => rfl
  | 2, _ => rfl
  | 3, _ => rfl
  | 4, _ => rfl
  | 5, _ => rfl
  | 6, _ => rfl
  | 7, _ => rfl
  | i + 8, h => by omega
theorem stat_take (c : Nat → Int) : ∀ i, i < 8 → encs c ((replySlots.drop 2).take (i + 1)) = encs c ((replySlots.drop 2).take i) ++ encS 0 (c (i + 2))
  | 0, _ => by simp [replySlots, encs]
  | 1, _ => by simp [replySlots, encs]
  | 2, _ => by simp [replySlots, encs]
  | 3, _ => by simp [replySlots, encs]
  | 4, _ => by simp [replySlots, encs]
  | 5, _ => by simp [replySlots, encs]
  | 6, _ => by simp [replySlots, encs]
  | 7, _ => by simp [replySlots, encs]
  | i + 8, h => by omega
set_option maxHeartbeats 8000000 in
theorem ref_reply (c : Nat → Int) (w : World) (hf : Fits replyT 10 c) :
    Calls Tryd.prog 8 #[.agg (rowA replyT 10 c)] w fun e w' => e = .returned (.tuple #[.string (bs (0 :: encs c replySlots)), .int .i64 0]) ∧ Below w.heap.size w w' := by
  obtain ⟨l1, hl1, ln1, C1⟩ := slot_int (n := c 0) (slot_fit (s := (2, 0)) hf rfl (by decide) (by decide))
  obtain ⟨l2, hl2, ln2, C2⟩ := slot_num (n := c 1) (slot_fit (s := (0, 1)) hf rfl (by decide) (by decide))
  obtain ⟨s1, hs1, sn1, ad1⟩ : ∃ s, s = [0] ++ l1 ∧ s.length ≤ 1 + 10 ∧ ∀ W, (Op.stringOp .add (⟨#[0]⟩ : ByteArray) (bs l1)).run Tryd.prog W = .ok (.string (bs s)) W := add_named [0] l1 1 10 (Nat.le_refl _) ln1 (by decide)
  obtain ⟨s2, hs2, sn2, ad2⟩ := add_named s1 l2 11 10 sn1 ln2 (by decide)
  have E2 : Hid (s2 = 0 :: (encS 2 (c 0) ++ encS 0 (c 1))) := by
    show s2 = 0 :: (encS 1 (c 0) ++ encS 0 (c 1))
    rw [hs2, hs1, hl1, hl2]; simp only [List.append_assoc, List.cons_append, List.nil_append]
  have H1 := Lib.hid C1
  have H2 := Lib.hid C2
  have HF : Hid (∀ i, i < 8 → FitS 0 (c (i + 2))) := fun i hi => slot_fit (s := (0, i + 2)) hf (by
    have h : ∀ i, i < 8 → replyT (i + 2) = 0 := by decide
    exact h i hi) (by decide : 0 < 9) (by omega)
  have SN := Lib.hid sn2
  clear hl1 hl2 hs1 hs2 ln1 ln2 sn1 sn2 C1 C2 hf
  go_enter Tryd.func8, Tryd.ntmps8
  go_upto_region 1 with (fail)
  have a0 := Blk.new w 37 (rowA replyT 10 c)
  have ab : Below w.heap.size w (w.alloc (.cells (rowA replyT 10 c) 37)) := by go_grown
  generalize w.alloc (.cells (rowA replyT 10 c) 37) = wb at a0 ab ⊢
  have A0 := Lib.hid a0
  have AB := Lib.hid ab
  clear a0 ab
  have KE : Hid (∀ w', Below (wb.heap.size) wb w' → (w'.cell? ⟨w.heap.size, 0, none⟩ = some (.int .i64 (c 0)) ∧ w'.cell? ⟨w.heap.size, 1, none⟩ = some (.int .u64 (c 1))) ∧ Below (wb.heap.size) wb w') := fun w' hb => ⟨⟨(A0.out.next hb).get 0 (rowA_get (by decide)), (A0.out.next hb).get 1 (rowA_get (by decide))⟩, hb⟩
  refine wp_region_noPanic ?_
  refine wp_region_held_drew (S := fun w' => (w'.cell? ⟨w.heap.size, 0, none⟩ = some (.int .i64 (c 0)) ∧ w'.cell? ⟨w.heap.size, 1, none⟩ = some (.int .u64 (c 1))) ∧ Below (wb.heap.size) wb w') (by kernel_rfl) (KE.out _ (below_of_drew ((Below.refl wb.heap.size wb)))) (fun hH => ?_)
  first | (refine wpAnyH_take (i := 0) (v := undef) rfl ?_ ?_ ?_ (fun _ _ _ h => h) ?_ ?_ ?_; kernel_rfl; kernel_rfl; kernel_rfl; exact Or.inr ⟨by rfl, rfl⟩; exact hH) | (refine wpAnyH_take (i := 0) (v := ?_) rfl ?_ ?_ ?_ (fun _ _ _ h => h) ?_ ?_ ?_; rotate_left; kernel_rfl; kernel_rfl; kernel_rfl; (focus (refine Or.inl ⟨by rfl, ?_⟩; intro w' hSw; (try dsimp only at hSw); go_simp)); exact hH) | (refine wpAnyH_take (i := 0) (v := ?_) rfl ?_ ?_ ?_ (fun _ _ _ h => h) ?_ ?_ ?_; rotate_left; kernel_rfl; kernel_rfl; kernel_rfl; (focus (refine Or.inl ⟨by rfl, ?_⟩; intro w' hSw; (try dsimp only at hSw); go_simp; with_reducible rfl)); exact hH)
  try simp only [Act.put, List.getElem_toArray, List.getElem_cons_succ, List.getElem_cons_zero, List.setIfInBounds_toArray, List.set_cons_zero, List.set_cons_succ]
  first | (refine wpAnyH_take (i := 1) (v := undef) rfl ?_ ?_ ?_ (fun _ _ _ h => h) ?_ ?_ ?_; kernel_rfl; kernel_rfl; kernel_rfl; exact Or.inr ⟨by rfl, rfl⟩; exact hH) | (refine wpAnyH_take (i := 1) (v := ?_) rfl ?_ ?_ ?_ (fun _ _ _ h => h) ?_ ?_ ?_; rotate_left; kernel_rfl; kernel_rfl; kernel_rfl; (focus (refine Or.inl ⟨by rfl, ?_⟩; intro w' hSw; (try dsimp only at hSw); go_simp)); exact hH) | (refine wpAnyH_take (i := 1) (v := ?_) rfl ?_ ?_ ?_ (fun _ _ _ h => h) ?_ ?_ ?_; rotate_left; kernel_rfl; kernel_rfl; kernel_rfl; (focus (refine Or.inl ⟨by rfl, ?_⟩; intro w' hSw; (try dsimp only at hSw); go_simp; with_reducible rfl)); exact hH)
  try simp only [Act.put, List.getElem_toArray, List.getElem_cons_succ, List.getElem_cons_zero, List.setIfInBounds_toArray, List.set_cons_zero, List.set_cons_succ]
  first | (refine wpAnyH_take (i := 4) (v := undef) rfl ?_ ?_ ?_ (fun _ _ _ h => h) ?_ ?_ ?_; kernel_rfl; kernel_rfl; kernel_rfl; exact Or.inr ⟨by rfl, rfl⟩; exact hH) | (refine wpAnyH_take (i := 4) (v := ?_) rfl ?_ ?_ ?_ (fun _ _ _ h => h) ?_ ?_ ?_; rotate_left; kernel_rfl; kernel_rfl; kernel_rfl; (focus (refine Or.inl ⟨by rfl, ?_⟩; intro w' hSw; (try dsimp only at hSw); go_simp)); exact hH) | (refine wpAnyH_take (i := 4) (v := ?_) rfl ?_ ?_ ?_ (fun _ _ _ h => h) ?_ ?_ ?_; rotate_left; kernel_rfl; kernel_rfl; kernel_rfl; (focus (refine Or.inl ⟨by rfl, ?_⟩; intro w' hSw; (try dsimp only at hSw); go_simp; with_reducible rfl)); exact hH)
  try simp only [Act.put, List.getElem_toArray, List.getElem_cons_succ, List.getElem_cons_zero, List.setIfInBounds_toArray, List.set_cons_zero, List.set_cons_succ]
  first | (refine wpAnyH_take (i := 5) (v := undef) rfl ?_ ?_ ?_ (fun _ _ _ h => h) ?_ ?_ ?_; kernel_rfl; kernel_rfl; kernel_rfl; exact Or.inr ⟨by rfl, rfl⟩; exact hH) | (refine wpAnyH_take (i := 5) (v := ?_) rfl ?_ ?_ ?_ (fun _ _ _ h => h) ?_ ?_ ?_; rotate_left; kernel_rfl; kernel_rfl; kernel_rfl; (focus (refine Or.inl ⟨by rfl, ?_⟩; intro w' hSw; (try dsimp only at hSw); go_simp)); exact hH) | (refine wpAnyH_take (i := 5) (v := ?_) rfl ?_ ?_ ?_ (fun _ _ _ h => h) ?_ ?_ ?_; rotate_left; kernel_rfl; kernel_rfl; kernel_rfl; (focus (refine Or.inl ⟨by rfl, ?_⟩; intro w' hSw; (try dsimp only at hSw); go_simp; with_reducible rfl)); exact hH)
  try simp only [Act.put, List.getElem_toArray, List.getElem_cons_succ, List.getElem_cons_zero, List.setIfInBounds_toArray, List.set_cons_zero, List.set_cons_succ]
  refine wpAnyH_ready (rs := [2]) (by kernel_rfl) (by simp) ?_
  refine AllReadyH.cons rfl (fun K hK => ?_) AllReadyH.nil
  go_simp
  with_reducible refine (H1.out _).mono ?_
  rintro e w1 ⟨rfl, hb1'⟩
  have hb1 : Below wb.heap.size wb w1 := below_next hH.2 hb1'
  try go_wp2_with fail
  refine hK.out _ _ (KE.out _ hb1) (fun hH1 => ?_)
  clear hK K hH
  have hH := hH1
  clear hH1
  try simp only [Act.put, List.getElem_toArray, List.getElem_cons_succ, List.getElem_cons_zero, List.setIfInBounds_toArray, List.set_cons_zero, List.set_cons_succ]
  first | (refine wpAnyH_take (i := 3) (v := undef) rfl ?_ ?_ ?_ (fun _ _ _ h => h) ?_ ?_ ?_; kernel_rfl; kernel_rfl; kernel_rfl; exact Or.inr ⟨by rfl, rfl⟩; exact hH) | (refine wpAnyH_take (i := 3) (v := ?_) rfl ?_ ?_ ?_ (fun _ _ _ h => h) ?_ ?_ ?_; rotate_left; kernel_rfl; kernel_rfl; kernel_rfl; (focus (refine Or.inl ⟨by rfl, ?_⟩; intro w' hSw; (try dsimp only at hSw); go_simp)); exact hH) | (refine wpAnyH_take (i := 3) (v := ?_) rfl ?_ ?_ ?_ (fun _ _ _ h => h) ?_ ?_ ?_; rotate_left; kernel_rfl; kernel_rfl; kernel_rfl; (focus (refine Or.inl ⟨by rfl, ?_⟩; intro w' hSw; (try dsimp only at hSw); go_simp; with_reducible rfl)); exact hH)
  try simp only [Act.put, List.getElem_toArray, List.getElem_cons_succ, List.getElem_cons_zero, List.setIfInBounds_toArray, List.set_cons_zero, List.set_cons_succ]
  refine wpAnyH_ready (rs := [6]) (by kernel_rfl) (by simp) ?_
  refine AllReadyH.cons rfl (fun K hK => ?_) AllReadyH.nil
  go_simp
  with_reducible refine (H2.out _).mono ?_
  rintro e w2 ⟨rfl, hb2'⟩
  have hb2 : Below wb.heap.size wb w2 := below_next hH.2 hb2'
  try go_wp2_with fail
  refine hK.out _ _ (KE.out _ hb2) (fun hH2 => ?_)
  clear hK K hH
  have hH := hH2
  clear hH2
  try simp only [Act.put, List.getElem_toArray, List.getElem_cons_succ, List.getElem_cons_zero, List.setIfInBounds_toArray, List.set_cons_zero, List.set_cons_succ]
  first | (refine wpAnyH_take (i := 7) (v := undef) rfl ?_ ?_ ?_ (fun _ _ _ h => h) ?_ ?_ ?_; kernel_rfl; kernel_rfl; kernel_rfl; exact Or.inr ⟨by rfl, rfl⟩; exact hH) | (refine wpAnyH_take (i := 7) (v := ?_) rfl ?_ ?_ ?_ (fun _ _ _ h => h) ?_ ?_ ?_; rotate_left; kernel_rfl; kernel_rfl; kernel_rfl; (focus (refine Or.inl ⟨by rfl, ?_⟩; intro w' hSw; (try dsimp only at hSw); go_simp)); exact hH) | (refine wpAnyH_take (i := 7) (v := ?_) rfl ?_ ?_ ?_ (fun _ _ _ h => h) ?_ ?_ ?_; rotate_left; kernel_rfl; kernel_rfl; kernel_rfl; (focus (refine Or.inl ⟨by rfl, ?_⟩; intro w' hSw; (try dsimp only at hSw); go_simp; with_reducible rfl)); exact hH)
  try simp only [Act.put, List.getElem_toArray, List.getElem_cons_succ, List.getElem_cons_zero, List.setIfInBounds_toArray, List.set_cons_zero, List.set_cons_succ]
  first | (refine wpAnyH_take (i := 8) (v := undef) rfl ?_ ?_ ?_ (fun _ _ _ h => h) ?_ ?_ ?_; kernel_rfl; kernel_rfl; kernel_rfl; exact Or.inr ⟨by rfl, rfl⟩; exact hH) | (refine wpAnyH_take (i := 8) (v := ?_) rfl ?_ ?_ ?_ (fun _ _ _ h => h) ?_ ?_ ?_; rotate_left; kernel_rfl; kernel_rfl; kernel_rfl; (focus (refine Or.inl ⟨by rfl, ?_⟩; intro w' hSw; (try dsimp only at hSw); go_simp)); exact hH) | (refine wpAnyH_take (i := 8) (v := ?_) rfl ?_ ?_ ?_ (fun _ _ _ h => h) ?_ ?_ ?_; rotate_left; kernel_rfl; kernel_rfl; kernel_rfl; (focus (refine Or.inl ⟨by rfl, ?_⟩; intro w' hSw; (try dsimp only at hSw); go_simp; with_reducible rfl)); exact hH)
  try simp only [Act.put, List.getElem_toArray, List.getElem_cons_succ, List.getElem_cons_zero, List.setIfInBounds_toArray, List.set_cons_zero, List.set_cons_succ]
  refine wpAnyH_done (by kernel_rfl) ?_ _
  refine NoPanic.normal ?_
  clear hH
  have A1 := Lib.hid (A0.out.next hb2)
  have hz := Lib.hid (AB.out.trans (hb2.mono AB.out.size))
  clear hb2 ad1 ad2 A0 AB
  go_wp2_with (first | (refine wpList_load_part rfl 35 _ rfl w.heap.size 2 rfl (partA replyT 2 8 c) 37 _ _ A1.out (partA_of (by decide)) Tryd.underlying35 rfl (by rw [partA_len]; kernel_rfl) ?_))
  with_reducible refine (ref_numbers c _).mono ?_
  rintro e w3 ⟨p, rfl, hp, hle, hb3⟩
  have HP : Hid (Blk w3 p 22 #[.int .u64 (c 2), .int .u64 (c 3), .int .u64 (c 4), .int .u64 (c 5), .int .u64 (c 6), .int .u64 (c 7), .int .u64 (c 8), .int .u64 (c 9)]) := hp
  have hy := Lib.hid (hz.out.trans (hb3.mono hz.out.size))
  clear hp hle hb3 hz A1
  go_wp2_with fail
  go_loopg [4, 6] 8 (fun gk sv ix wr => ∃ (i : Nat) (s : List Nat), i + gk = 8 ∧ sv = .string (bs s) ∧ s = s2 ++ encs c ((replySlots.drop 2).take i) ∧ s.length ≤ 21 + 10 * i ∧ ix = .int .i64 i ∧ Blk wr p 22 #[.int .u64 (c 2), .int .u64 (c 3), .int .u64 (c 4), .int .u64 (c 5), .int .u64 (c 6), .int .u64 (c 7), .int .u64 (c 8), .int .u64 (c 9)] ∧ Below w.heap.size w wr)
  case atStart => exact ⟨0, s2, by omega, rfl, (List.append_nil _).symm, SN.out, rfl, HP.out, hy.out⟩
  case round =>
    obtain ⟨i, s, hi, rfl, hs, hsl, rfl, hpb, hbw⟩ := hrel
    have HPB := Lib.hid hpb
    have HBW := Lib.hid hbw
    have HS := Lib.hid hs
    clear HP hy hs hpb hbw
    by_cases hlt : i < 8
    · obtain ⟨gm, rfl⟩ : ∃ gm, gk = gm + 1 := ⟨gk - 1, by omega⟩
      have hlt' : (i : Int) < 8 := by omega
      obtain ⟨l, hl, ln, C⟩ := slot_num (HF.out i hlt)
      obtain ⟨s3, hs3, sn3, ad3⟩ := add_named s l (21 + 10 * i) 10 hsl ln (by omega)
      have HC := Lib.hid C
      have HE : Hid (s3 = s2 ++ encs c ((replySlots.drop 2).take (i + 1))) := by
        show s3 = _
        rw [hs3, HS.out, hl, stat_take c i hlt, List.append_assoc]
      have HLN : Hid (s3.length ≤ 21 + 10 * (i + 1)) := by show s3.length ≤ _; omega
      have cc : wr.cell? ⟨p, i, none⟩ = some (.int .u64 (c (i + 2))) := HPB.out.get i (stat_get c i hlt)
      clear hl ln C hs3 sn3 HS hsl
      go_wp2_with fail
      with_reducible refine (HC.out wr).mono ?_
      rintro e wa ⟨rfl, hba⟩
      have HPA := Lib.hid (HPB.out.next hba)
      have HBA := Lib.hid (HBW.out.trans (hba.mono HBW.out.size))
      clear hba cc HPB HBW HC
      go_wp2_with fail
      go_roundg gm
      case rel => exact ⟨i + 1, s3, by omega, rfl, HE.out, HLN.out, by go_num, HPA.out, HBA.out⟩
      case measure => omega
    · obtain rfl : gk = 0 := by omega
      obtain rfl : i = 8 := by omega
      have HE : Hid (s = 0 :: encs c replySlots) := by
        show s = _
        rw [HS.out, E2.out]
        simp [replySlots, encs]
      clear hsl HS
      go_wp2_with fail
      go_ret2
      exact ⟨by rw [HE.out]; rfl, HBW.out⟩

end Go.Proofs.YtbageagobalgbaaDoor
