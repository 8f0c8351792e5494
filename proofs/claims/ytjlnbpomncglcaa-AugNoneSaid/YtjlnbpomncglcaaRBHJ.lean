/-
  Red-black trees in memory (h): a value dropped, to the right.
-/
import Derived.Test.YtjlnbpomncglcaaProg
import Derived.Test.YtjlnbpomncglcaaRBHI
import Derived.Test.YtjlnbpomncglcaaRowVal
import Derived.BigRegion
namespace Go.Proofs.Ytjlnbpomncglcaa
set_option linter.unusedVariables false
set_option linter.unusedSimpArgs false
set_option maxRecDepth 100000
open Go.RowKit

theorem eq_key (a b : RK) (bb : Bool) (w : World) (h : bb = true ↔ a = b) : (Op.equalIn 10000 31 (.agg #[.int .u64 a.1, .int .i64 a.2]) (.agg #[.int .u64 b.1, .int .i64 b.2])).run Try.prog w = .ok bb w := by
  obtain ⟨a1, a2⟩ := a
  obtain ⟨b1, b2⟩ := b
  simp [go_sem]
  cases bb with
  | true =>
    have h := h.1 rfl
    injection h with h1 h2
    subst h1 h2
    simp only [if_true]
  | false =>
    have h : ¬ ((a1, a2) : RK) = (b1, b2) := fun e => by have := h.2 e; cases this
    by_cases e1 : a1 = b1
    · rw [if_pos e1]
      by_cases e2 : a2 = b2
      · exact absurd (by rw [e1, e2]) h
      · rw [if_neg e2]
    · rw [if_neg e1]
namespace RB
theorem goR2_left {α : Type} {of : RK → Int → α} {join : α → α → α} {t : RB α} {n : Nat} (h : DropPre of join n t) (hr : (goR1 of join t).right ≠ nil) (hc : (!(goR1 of join t).right.red && !(goR1 of join t).right.left.red) = true) : ∃ b c l k v s r, (goR1 of join t).left = node b c l k v s r := by
  obtain ⟨b, c, l, k, v, s, r, m, rfl, hl, hrw, hcase⟩ := h
  rw [Bool.and_eq_true, Bool.not_eq_true'] at hc
  rcases hcase with ⟨rfl, h1, h2, rfl⟩ | ⟨rfl, h1, h2, rfl⟩ | ⟨rfl, h1, h2, rfl⟩
  · have e1 : goR1 of join (node b true l k v s r) = node b true l k v s r := by simp only [goR1, left_n, h1, Bool.false_eq_true, if_false]
    rw [e1] at hr hc ⊢
    exact hl.node_of (hrw.black_pos h2 hr)
  · obtain ⟨b1, l1, k1, v1, s1, r1, rfl, _⟩ := hl.red_parts h1
    have : goR1 of join (node b false (node b1 true l1 k1 v1 s1 r1) k v s r) = rotR of join (node b false (node b1 true l1 k1 v1 s1 r1) k v s r) := rfl
    rw [this, rotR_n] at hc
    exact absurd (show true = false from hc.1) (by decide)
  · have e1 : goR1 of join (node b false l k v s r) = node b false l k v s r := by simp only [goR1, left_n, h1, Bool.false_eq_true, if_false]
    rw [e1] at hc
    have : r.red = false := hc.1
    rw [h2] at this; cases this
end RB
set_option maxHeartbeats 32000000 in
theorem rh_drop_r (T N : Nat) (k : RK) (ih : DropIHH T N k) (b : Nat) (c : Bool) (l : RB (Int × Int)) (kk : RK) (vv : Int) (s : (Int × Int)) (r : RB (Int × Int)) (n : Nat) (w : World) (hN : RB.size (.node b c l kk vv s r) ≤ N + 1) (hp : RB.DropPre ofH minH n (.node b c l kk vv s r)) (hR : Rises (RB.items (.node b c l kk vv s r))) (hg : ∃ v, get k (RB.items (.node b c l kk vv s r)) = some v) (hk : klt k kk = false)
    (h : RepH w (.node b c l kk vv s r)) (hn : (RB.blocks (.node b c l kk vv s r)).Nodup) (hT : TreH w T) (hTn : T ∉ RB.blocks (.node b c l kk vv s r)) :
    Calls Try.prog 110 #[.pointer (some ⟨T, 0, none⟩), .pointer (ptrO (.node b c l kk vv s r)), .agg #[.int .u64 k.1, .int .i64 k.2]] w fun e w' => DDropH w T n k (.node b c l kk vv s r) e w' := by
  unfold DropIHH at ih
  have HIH := Lib.hid ih
  have HSZ := Lib.hid hN
  have HK := Lib.hid hk
  have HP := Lib.hid hp
  have HRG := Lib.hid (And.intro hR hg)
  have HH := Lib.hid (And.intro h (And.intro hn (And.intro hT hTn)))
  clear ih hN hk hR hg h hn hT hTn hp
  obtain ⟨B, hB⟩ : ∃ B, RB.blocks (.node b c l kk vv s r) = B := ⟨_, rfl⟩
  have HB := Lib.hid hB
  clear hB
  rw [node_ptr]
  go_enter Try.func110, Try.ntmps110
  go_upto_region 1 with (fail)
  have hb0 : Below w.heap.size w (w.alloc (.cells #[.int .u64 k.1, .int .i64 k.2] 31)) := by go_grown
  have kb := Blk.new w 31 #[.int .u64 k.1, .int .i64 k.2]
  generalize w.alloc (.cells #[.int .u64 k.1, .int .i64 k.2] 31) = wa at hb0 kb ⊢
  have HBB := Lib.hid (And.intro hb0 kb)
  clear hb0 kb
  have HSa := Lib.hid (StH.next (StH.new HH.out.1 HH.out.2.1 HH.out.2.2.1 HH.out.2.2.2) HBB.out.1)
  have KP : Hid (∀ w', Below (wa.heap.size) wa w' → (w'.cell? ⟨w.heap.size, 0, none⟩ = some (.int .u64 k.1) ∧ w'.cell? ⟨w.heap.size, 1, none⟩ = some (.int .i64 k.2) ∧ w'.cell? ⟨b, 0, none⟩ = some (.int .u64 kk.1) ∧ w'.cell? ⟨b, 1, none⟩ = some (.int .i64 kk.2)) ∧ Below (wa.heap.size) wa w') := fun w' hb => ⟨⟨(HBB.out.2.next hb).get 0 rfl, (HBB.out.2.next hb).get 1 rfl, (HSa.out.at.1.next hb).get 0 rfl, (HSa.out.at.1.next hb).get 1 rfl⟩, hb⟩
  refine wp_region_noPanic ?_
  refine wp_region_held_drew (S := fun w' => (w'.cell? ⟨w.heap.size, 0, none⟩ = some (.int .u64 k.1) ∧ w'.cell? ⟨w.heap.size, 1, none⟩ = some (.int .i64 k.2) ∧ w'.cell? ⟨b, 0, none⟩ = some (.int .u64 kk.1) ∧ w'.cell? ⟨b, 1, none⟩ = some (.int .i64 kk.2)) ∧ Below (wa.heap.size) wa w') (by kernel_rfl) (KP.out _ (below_of_drew ((Below.refl wa.heap.size wa)))) (fun hH => ?_)
  first | (refine wpAnyH_take (i := 0) (v := undef) rfl ?_ ?_ ?_ (fun _ _ _ h => h) ?_ ?_ ?_; kernel_rfl; kernel_rfl; kernel_rfl; exact Or.inr ⟨by rfl, rfl⟩; exact hH) | (refine wpAnyH_take (i := 0) (v := ?_) rfl ?_ ?_ ?_ (fun _ _ _ h => h) ?_ ?_ ?_; rotate_left; kernel_rfl; kernel_rfl; kernel_rfl; (focus (refine Or.inl ⟨by rfl, ?_⟩; intro w' hSw; (try dsimp only at hSw); go_simp)); exact hH) | (refine wpAnyH_take (i := 0) (v := ?_) rfl ?_ ?_ ?_ (fun _ _ _ h => h) ?_ ?_ ?_; rotate_left; kernel_rfl; kernel_rfl; kernel_rfl; (focus (refine Or.inl ⟨by rfl, ?_⟩; intro w' hSw; (try dsimp only at hSw); go_simp; with_reducible rfl)); exact hH)
  try simp only [Act.put, List.getElem_toArray, List.getElem_cons_succ, List.getElem_cons_zero, List.setIfInBounds_toArray, List.set_cons_zero, List.set_cons_succ]
  first | (refine wpAnyH_take (i := 1) (v := undef) rfl ?_ ?_ ?_ (fun _ _ _ h => h) ?_ ?_ ?_; kernel_rfl; kernel_rfl; kernel_rfl; exact Or.inr ⟨by rfl, rfl⟩; exact hH) | (refine wpAnyH_take (i := 1) (v := ?_) rfl ?_ ?_ ?_ (fun _ _ _ h => h) ?_ ?_ ?_; rotate_left; kernel_rfl; kernel_rfl; kernel_rfl; (focus (refine Or.inl ⟨by rfl, ?_⟩; intro w' hSw; (try dsimp only at hSw); go_simp)); exact hH) | (refine wpAnyH_take (i := 1) (v := ?_) rfl ?_ ?_ ?_ (fun _ _ _ h => h) ?_ ?_ ?_; rotate_left; kernel_rfl; kernel_rfl; kernel_rfl; (focus (refine Or.inl ⟨by rfl, ?_⟩; intro w' hSw; (try dsimp only at hSw); go_simp; with_reducible rfl)); exact hH)
  try simp only [Act.put, List.getElem_toArray, List.getElem_cons_succ, List.getElem_cons_zero, List.setIfInBounds_toArray, List.set_cons_zero, List.set_cons_succ]
  first | (refine wpAnyH_take (i := 2) (v := undef) rfl ?_ ?_ ?_ (fun _ _ _ h => h) ?_ ?_ ?_; kernel_rfl; kernel_rfl; kernel_rfl; exact Or.inr ⟨by rfl, rfl⟩; exact hH) | (refine wpAnyH_take (i := 2) (v := ?_) rfl ?_ ?_ ?_ (fun _ _ _ h => h) ?_ ?_ ?_; rotate_left; kernel_rfl; kernel_rfl; kernel_rfl; (focus (refine Or.inl ⟨by rfl, ?_⟩; intro w' hSw; (try dsimp only at hSw); go_simp)); exact hH) | (refine wpAnyH_take (i := 2) (v := ?_) rfl ?_ ?_ ?_ (fun _ _ _ h => h) ?_ ?_ ?_; rotate_left; kernel_rfl; kernel_rfl; kernel_rfl; (focus (refine Or.inl ⟨by rfl, ?_⟩; intro w' hSw; (try dsimp only at hSw); go_simp; with_reducible rfl)); exact hH)
  try simp only [Act.put, List.getElem_toArray, List.getElem_cons_succ, List.getElem_cons_zero, List.setIfInBounds_toArray, List.set_cons_zero, List.set_cons_succ]
  first | (refine wpAnyH_take (i := 3) (v := undef) rfl ?_ ?_ ?_ (fun _ _ _ h => h) ?_ ?_ ?_; kernel_rfl; kernel_rfl; kernel_rfl; exact Or.inr ⟨by rfl, rfl⟩; exact hH) | (refine wpAnyH_take (i := 3) (v := ?_) rfl ?_ ?_ ?_ (fun _ _ _ h => h) ?_ ?_ ?_; rotate_left; kernel_rfl; kernel_rfl; kernel_rfl; (focus (refine Or.inl ⟨by rfl, ?_⟩; intro w' hSw; (try dsimp only at hSw); go_simp)); exact hH) | (refine wpAnyH_take (i := 3) (v := ?_) rfl ?_ ?_ ?_ (fun _ _ _ h => h) ?_ ?_ ?_; rotate_left; kernel_rfl; kernel_rfl; kernel_rfl; (focus (refine Or.inl ⟨by rfl, ?_⟩; intro w' hSw; (try dsimp only at hSw); go_simp; with_reducible rfl)); exact hH)
  try simp only [Act.put, List.getElem_toArray, List.getElem_cons_succ, List.getElem_cons_zero, List.setIfInBounds_toArray, List.set_cons_zero, List.set_cons_succ]
  first | (refine wpAnyH_take (i := 4) (v := undef) rfl ?_ ?_ ?_ (fun _ _ _ h => h) ?_ ?_ ?_; kernel_rfl; kernel_rfl; kernel_rfl; exact Or.inr ⟨by rfl, rfl⟩; exact hH) | (refine wpAnyH_take (i := 4) (v := ?_) rfl ?_ ?_ ?_ (fun _ _ _ h => h) ?_ ?_ ?_; rotate_left; kernel_rfl; kernel_rfl; kernel_rfl; (focus (refine Or.inl ⟨by rfl, ?_⟩; intro w' hSw; (try dsimp only at hSw); go_simp)); exact hH) | (refine wpAnyH_take (i := 4) (v := ?_) rfl ?_ ?_ ?_ (fun _ _ _ h => h) ?_ ?_ ?_; rotate_left; kernel_rfl; kernel_rfl; kernel_rfl; (focus (refine Or.inl ⟨by rfl, ?_⟩; intro w' hSw; (try dsimp only at hSw); go_simp; with_reducible rfl)); exact hH)
  try simp only [Act.put, List.getElem_toArray, List.getElem_cons_succ, List.getElem_cons_zero, List.setIfInBounds_toArray, List.set_cons_zero, List.set_cons_succ]
  refine wpAnyH_ready (rs := [5]) (by kernel_rfl) (by simp) ?_
  refine AllReadyH.cons rfl (fun K hK => ?_) AllReadyH.nil
  go_simp
  with_reducible refine (rb_less k.1 k.2 kk.1 kk.2 _).mono ?_
  rintro e w1 ⟨rfl, hb1'⟩
  have hb1 : Below wa.heap.size wa w1 := below_next hH.2 hb1'
  try go_wp2_with fail
  refine hK.out _ _ (KP.out _ hb1) (fun hH1 => ?_)
  clear hK K hH
  have hH := hH1
  clear hH1
  try simp only [Act.put, List.getElem_toArray, List.getElem_cons_succ, List.getElem_cons_zero, List.setIfInBounds_toArray, List.set_cons_zero, List.set_cons_succ]
  refine wpAnyH_done (by kernel_rfl) ?_ _
  refine NoPanic.normal ?_
  clear hH
  rw [show klt (k.1, k.2) (kk.1, kk.2) = false from HK.out]
  have HKB := Lib.hid (HBB.out.2.next hb1)
  have hs := HSa.out.next hb1
  rw [HB.out] at hs
  have HS := Lib.hid hs
  clear hs hb1 KP HSa HBB
  have x0 : w1.cell? ⟨b, 6, none⟩ = some (ptrV l) := HS.out.at.1.get 6 rfl
  go_wp2_with fail
  with_reducible refine (rh_is l w1 HS.out.at.2.1).mono ?_
  rintro e wx ⟨rfl, rfl⟩
  clear x0
  go_upto_if 51 with (fail)
  go_cut [1] (fun hv wc => (∃ (b' : Nat) (c' : Bool) (l' : RB (Int × Int)) (k' : RK) (v' : Int) (s' : (Int × Int)) (r' : RB (Int × Int)), hv = .pointer (some ⟨b', 0, none⟩) ∧ RB.goR1 ofH minH (.node b c l kk vv s r) = (.node b' c' l' k' v' s' r') ∧ StH w wc T B (.node b' c' l' k' v' s' r')) ∧ Blk wc w.heap.size 31 #[.int .u64 k.1, .int .i64 k.2])
  case first =>
    cases hl : l.red with
    | false =>
      go_wp2_with fail
      go_meet
      exact ⟨⟨b, c, l, kk, vv, s, r, rfl, if_neg (show ¬ (l.red = true) from by rw [hl]; exact Bool.false_ne_true), HS.out⟩, HKB.out⟩
    | true =>
      cases l with
      | nil => cases hl
      | node b2 c2 l2 k2 v2 s2 r2 =>
        go_wp2_with fail
        with_reducible refine (rh_right T b b2 c c2 r l2 r2 kk k2 vv v2 s s2 w1 HS.out.rep HS.out.nodup HS.out.tre HS.out.notin).mono ?_
        rintro e w2 ⟨rfl, hk⟩
        have hkey := HKB.out.fr hk.2 (fun hx => by
          have h0 : ∀ x ∈ B, x < w.heap.size := fun x hx => RepH.lt HH.out.1 x (by rw [HB.out]; exact hx)
          rcases hx with e | e
          · have := h0 b (HS.out.perm.mem_iff.1 (by simp [RB.blocks])); omega
          · have := h0 b2 (HS.out.perm.mem_iff.1 (by simp [RB.blocks])); omega)
        have HK2 := Lib.hid (And.intro (HS.out.turn hk (by rintro j (rfl | rfl) <;> simp [RB.blocks]) (RB.blocks_rotR _)) hkey)
        clear hk hkey
        rw [RB.rotR_n] at HK2
        go_wp2_with fail
        go_meet
        exact ⟨⟨b2, _, _, _, _, _, _, rfl, (show RB.goR1 ofH minH (.node b c (.node b2 c2 l2 k2 v2 s2 r2) kk vv s r) = RB.rotR ofH minH (.node b c (.node b2 c2 l2 k2 v2 s2 r2) kk vv s r) from if_pos hl).trans RB.rotR_n, HK2.out.1⟩, HK2.out.2⟩
  case rest =>
  obtain ⟨⟨b', c', l', k', v', s', r', rfl, he, hS⟩, hkey⟩ := hcut
  obtain ⟨wo, rfl⟩ : ∃ x : World, x = wc := ⟨_, rfl⟩
  have HE := Lib.hid he
  have HW := Lib.hid hS
  have HKY := Lib.hid hkey
  have hit : l'.items ++ (k', v') :: r'.items = RB.items (.node b c l kk vv s r) := by
    have := RB.items_goR1 (of := ofH) (join := minH) (.node b c l kk vv s r)
    rw [he] at this
    exact this
  have HITT := Lib.hid hit
  have hR2 : Rises (l'.items ++ (k', v') :: r'.items) := by rw [hit]; exact HRG.out.1
  have hk1 : klt k k' = false := by
    rcases RB.goR1_root he with e | e
    · rw [e]; exact HK.out
    · have h2 := (Rises.mid hR2).2.1 _ e
      exact Bool.eq_false_iff.2 fun h3 => by have := klt_trans h3 h2; rw [HK.out] at this; cases this
  have H1 := Lib.hid (And.intro hR2 hk1)
  have HLT : Hid (∀ x ∈ B, x < w.heap.size) := fun x hx => RepH.lt HH.out.1 x (by rw [HB.out]; exact hx)
  clear he hS hkey hit hR2 hk1 HS HKB
  go_upto_region 8 with (fail)
  cases r' with
  | nil =>
    obtain ⟨b0, k0, v0, s0, e1, e2, rfl⟩ := RB.drop_leaf HP.out (by rw [HE.out]; rfl)
    rw [HE.out] at e2
    rw [e1] at e2
    injection e1 with q1 q2 q3 q4 q5 q6 q7
    subst q1 q2 q3 q4 q5 q6 q7
    have e3 := e2.symm
    injection e3 with q1 q2 q3 q4 q5 q6 q7
    subst q1 q2 q3 q4 q5 q6
    clear e2 q7
    obtain ⟨v, hv⟩ := HRG.out.2
    have hkk : kk = k := by
      have hv2 : (if kk = k then some vv else none) = some v := hv
      by_cases e : kk = k
      · exact e
      · rw [if_neg e] at hv2; cases hv2
    subst hkk
    have HKE := Lib.hid (fun w => eq_key kk kk (true != false) w ⟨fun _ => rfl, fun _ => rfl⟩)
    have x5 := HW.out.at.1
    have KP : Hid (∀ w', Below (wo.heap.size) wo w' → (w'.cell? ⟨w.heap.size, 0, none⟩ = some (.int .u64 kk.1) ∧ w'.cell? ⟨w.heap.size, 1, none⟩ = some (.int .i64 kk.2) ∧ w'.cell? ⟨b, 0, none⟩ = some (.int .u64 kk.1) ∧ w'.cell? ⟨b, 1, none⟩ = some (.int .i64 kk.2) ∧ w'.cell? ⟨b, 7, none⟩ = some (.pointer none)) ∧ Below (wo.heap.size) wo w') := fun w' hb => ⟨⟨(HKY.out.next hb).get 0 rfl, (HKY.out.next hb).get 1 rfl, (HW.out.at.1.next hb).get 0 rfl, (HW.out.at.1.next hb).get 1 rfl, (HW.out.at.1.next hb).get 7 rfl⟩, hb⟩
    clear x5
    refine wp_region_noPanic ?_
    refine wp_region_held_drew (S := fun w' => (w'.cell? ⟨w.heap.size, 0, none⟩ = some (.int .u64 kk.1) ∧ w'.cell? ⟨w.heap.size, 1, none⟩ = some (.int .i64 kk.2) ∧ w'.cell? ⟨b, 0, none⟩ = some (.int .u64 kk.1) ∧ w'.cell? ⟨b, 1, none⟩ = some (.int .i64 kk.2) ∧ w'.cell? ⟨b, 7, none⟩ = some (.pointer none)) ∧ Below (wo.heap.size) wo w') (by kernel_rfl) (KP.out _ (below_of_drew ((Below.refl wo.heap.size wo)))) (fun hH => ?_)
    first | (refine wpAnyH_take (i := 0) (v := undef) rfl ?_ ?_ ?_ (fun _ _ _ h => h) ?_ ?_ ?_; kernel_rfl; kernel_rfl; kernel_rfl; exact Or.inr ⟨by rfl, rfl⟩; exact hH) | (refine wpAnyH_take (i := 0) (v := ?_) rfl ?_ ?_ ?_ (fun _ _ _ h => h) ?_ ?_ ?_; rotate_left; kernel_rfl; kernel_rfl; kernel_rfl; (focus (refine Or.inl ⟨by rfl, ?_⟩; intro w' hSw; (try dsimp only at hSw); go_simp)); exact hH) | (refine wpAnyH_take (i := 0) (v := ?_) rfl ?_ ?_ ?_ (fun _ _ _ h => h) ?_ ?_ ?_; rotate_left; kernel_rfl; kernel_rfl; kernel_rfl; (focus (refine Or.inl ⟨by rfl, ?_⟩; intro w' hSw; (try dsimp only at hSw); go_simp; with_reducible rfl)); exact hH)
    try simp only [Act.put, List.getElem_toArray, List.getElem_cons_succ, List.getElem_cons_zero, List.setIfInBounds_toArray, List.set_cons_zero, List.set_cons_succ]
    first | (refine wpAnyH_take (i := 1) (v := undef) rfl ?_ ?_ ?_ (fun _ _ _ h => h) ?_ ?_ ?_; kernel_rfl; kernel_rfl; kernel_rfl; exact Or.inr ⟨by rfl, rfl⟩; exact hH) | (refine wpAnyH_take (i := 1) (v := ?_) rfl ?_ ?_ ?_ (fun _ _ _ h => h) ?_ ?_ ?_; rotate_left; kernel_rfl; kernel_rfl; kernel_rfl; (focus (refine Or.inl ⟨by rfl, ?_⟩; intro w' hSw; (try dsimp only at hSw); go_simp)); exact hH) | (refine wpAnyH_take (i := 1) (v := ?_) rfl ?_ ?_ ?_ (fun _ _ _ h => h) ?_ ?_ ?_; rotate_left; kernel_rfl; kernel_rfl; kernel_rfl; (focus (refine Or.inl ⟨by rfl, ?_⟩; intro w' hSw; (try dsimp only at hSw); go_simp; with_reducible rfl)); exact hH)
    try simp only [Act.put, List.getElem_toArray, List.getElem_cons_succ, List.getElem_cons_zero, List.setIfInBounds_toArray, List.set_cons_zero, List.set_cons_succ]
    first | (refine wpAnyH_take (i := 2) (v := undef) rfl ?_ ?_ ?_ (fun _ _ _ h => h) ?_ ?_ ?_; kernel_rfl; kernel_rfl; kernel_rfl; exact Or.inr ⟨by rfl, rfl⟩; exact hH) | (refine wpAnyH_take (i := 2) (v := ?_) rfl ?_ ?_ ?_ (fun _ _ _ h => h) ?_ ?_ ?_; rotate_left; kernel_rfl; kernel_rfl; kernel_rfl; (focus (refine Or.inl ⟨by rfl, ?_⟩; intro w' hSw; (try dsimp only at hSw); go_simp)); exact hH) | (refine wpAnyH_take (i := 2) (v := ?_) rfl ?_ ?_ ?_ (fun _ _ _ h => h) ?_ ?_ ?_; rotate_left; kernel_rfl; kernel_rfl; kernel_rfl; (focus (refine Or.inl ⟨by rfl, ?_⟩; intro w' hSw; (try dsimp only at hSw); go_simp; with_reducible rfl)); exact hH)
    try simp only [Act.put, List.getElem_toArray, List.getElem_cons_succ, List.getElem_cons_zero, List.setIfInBounds_toArray, List.set_cons_zero, List.set_cons_succ]
    first | (refine wpAnyH_take (i := 3) (v := undef) rfl ?_ ?_ ?_ (fun _ _ _ h => h) ?_ ?_ ?_; kernel_rfl; kernel_rfl; kernel_rfl; exact Or.inr ⟨by rfl, rfl⟩; exact hH) | (refine wpAnyH_take (i := 3) (v := ?_) rfl ?_ ?_ ?_ (fun _ _ _ h => h) ?_ ?_ ?_; rotate_left; kernel_rfl; kernel_rfl; kernel_rfl; (focus (refine Or.inl ⟨by rfl, ?_⟩; intro w' hSw; (try dsimp only at hSw); go_simp)); exact hH) | (refine wpAnyH_take (i := 3) (v := ?_) rfl ?_ ?_ ?_ (fun _ _ _ h => h) ?_ ?_ ?_; rotate_left; kernel_rfl; kernel_rfl; kernel_rfl; (focus (refine Or.inl ⟨by rfl, ?_⟩; intro w' hSw; (try dsimp only at hSw); go_simp; with_reducible rfl)); exact hH)
    try simp only [Act.put, List.getElem_toArray, List.getElem_cons_succ, List.getElem_cons_zero, List.setIfInBounds_toArray, List.set_cons_zero, List.set_cons_succ]
    first | (refine wpAnyH_take (i := 4) (v := undef) rfl ?_ ?_ ?_ (fun _ _ _ h => h) ?_ ?_ ?_; kernel_rfl; kernel_rfl; kernel_rfl; exact Or.inr ⟨by rfl, rfl⟩; exact hH) | (refine wpAnyH_take (i := 4) (v := ?_) rfl ?_ ?_ ?_ (fun _ _ _ h => h) ?_ ?_ ?_; rotate_left; kernel_rfl; kernel_rfl; kernel_rfl; (focus (refine Or.inl ⟨by rfl, ?_⟩; intro w' hSw; (try dsimp only at hSw); go_simp)); exact hH) | (refine wpAnyH_take (i := 4) (v := ?_) rfl ?_ ?_ ?_ (fun _ _ _ h => h) ?_ ?_ ?_; rotate_left; kernel_rfl; kernel_rfl; kernel_rfl; (focus (refine Or.inl ⟨by rfl, ?_⟩; intro w' hSw; (try dsimp only at hSw); go_simp; with_reducible rfl)); exact hH)
    try simp only [Act.put, List.getElem_toArray, List.getElem_cons_succ, List.getElem_cons_zero, List.setIfInBounds_toArray, List.set_cons_zero, List.set_cons_succ]
    (refine wpAnyH_take (i := 5) (v := .bool true) rfl ?_ ?_ ?_ (fun _ _ _ h => h) ?_ ?_ ?_; kernel_rfl; kernel_rfl; kernel_rfl; exact yields_cmp rfl false 31 _ _ _ rfl _ _ rfl rfl true (by kernel_rfl) HKE.out; exact hH)
    try simp only [Act.put, List.getElem_toArray, List.getElem_cons_succ, List.getElem_cons_zero, List.setIfInBounds_toArray, List.set_cons_zero, List.set_cons_succ]
    first | (refine wpAnyH_take (i := 6) (v := undef) rfl ?_ ?_ ?_ (fun _ _ _ h => h) ?_ ?_ ?_; kernel_rfl; kernel_rfl; kernel_rfl; exact Or.inr ⟨by rfl, rfl⟩; exact hH) | (refine wpAnyH_take (i := 6) (v := ?_) rfl ?_ ?_ ?_ (fun _ _ _ h => h) ?_ ?_ ?_; rotate_left; kernel_rfl; kernel_rfl; kernel_rfl; (focus (refine Or.inl ⟨by rfl, ?_⟩; intro w' hSw; (try dsimp only at hSw); go_simp)); exact hH) | (refine wpAnyH_take (i := 6) (v := ?_) rfl ?_ ?_ ?_ (fun _ _ _ h => h) ?_ ?_ ?_; rotate_left; kernel_rfl; kernel_rfl; kernel_rfl; (focus (refine Or.inl ⟨by rfl, ?_⟩; intro w' hSw; (try dsimp only at hSw); go_simp; with_reducible rfl)); exact hH)
    try simp only [Act.put, List.getElem_toArray, List.getElem_cons_succ, List.getElem_cons_zero, List.setIfInBounds_toArray, List.set_cons_zero, List.set_cons_succ]
    first | (refine wpAnyH_take (i := 7) (v := undef) rfl ?_ ?_ ?_ (fun _ _ _ h => h) ?_ ?_ ?_; kernel_rfl; kernel_rfl; kernel_rfl; exact Or.inr ⟨by rfl, rfl⟩; exact hH) | (refine wpAnyH_take (i := 7) (v := ?_) rfl ?_ ?_ ?_ (fun _ _ _ h => h) ?_ ?_ ?_; rotate_left; kernel_rfl; kernel_rfl; kernel_rfl; (focus (refine Or.inl ⟨by rfl, ?_⟩; intro w' hSw; (try dsimp only at hSw); go_simp)); exact hH) | (refine wpAnyH_take (i := 7) (v := ?_) rfl ?_ ?_ ?_ (fun _ _ _ h => h) ?_ ?_ ?_; rotate_left; kernel_rfl; kernel_rfl; kernel_rfl; (focus (refine Or.inl ⟨by rfl, ?_⟩; intro w' hSw; (try dsimp only at hSw); go_simp; with_reducible rfl)); exact hH)
    try simp only [Act.put, List.getElem_toArray, List.getElem_cons_succ, List.getElem_cons_zero, List.setIfInBounds_toArray, List.set_cons_zero, List.set_cons_succ]
    first | (refine wpAnyH_take (i := 8) (v := undef) rfl ?_ ?_ ?_ (fun _ _ _ h => h) ?_ ?_ ?_; kernel_rfl; kernel_rfl; kernel_rfl; exact Or.inr ⟨by rfl, rfl⟩; exact hH) | (refine wpAnyH_take (i := 8) (v := ?_) rfl ?_ ?_ ?_ (fun _ _ _ h => h) ?_ ?_ ?_; rotate_left; kernel_rfl; kernel_rfl; kernel_rfl; (focus (refine Or.inl ⟨by rfl, ?_⟩; intro w' hSw; (try dsimp only at hSw); go_simp)); exact hH) | (refine wpAnyH_take (i := 8) (v := ?_) rfl ?_ ?_ ?_ (fun _ _ _ h => h) ?_ ?_ ?_; rotate_left; kernel_rfl; kernel_rfl; kernel_rfl; (focus (refine Or.inl ⟨by rfl, ?_⟩; intro w' hSw; (try dsimp only at hSw); go_simp; with_reducible rfl)); exact hH)
    try simp only [Act.put, List.getElem_toArray, List.getElem_cons_succ, List.getElem_cons_zero, List.setIfInBounds_toArray, List.set_cons_zero, List.set_cons_succ]
    first | (refine wpAnyH_take (i := 9) (v := undef) rfl ?_ ?_ ?_ (fun _ _ _ h => h) ?_ ?_ ?_; kernel_rfl; kernel_rfl; kernel_rfl; exact Or.inr ⟨by rfl, rfl⟩; exact hH) | (refine wpAnyH_take (i := 9) (v := ?_) rfl ?_ ?_ ?_ (fun _ _ _ h => h) ?_ ?_ ?_; rotate_left; kernel_rfl; kernel_rfl; kernel_rfl; (focus (refine Or.inl ⟨by rfl, ?_⟩; intro w' hSw; (try dsimp only at hSw); go_simp)); exact hH) | (refine wpAnyH_take (i := 9) (v := ?_) rfl ?_ ?_ ?_ (fun _ _ _ h => h) ?_ ?_ ?_; rotate_left; kernel_rfl; kernel_rfl; kernel_rfl; (focus (refine Or.inl ⟨by rfl, ?_⟩; intro w' hSw; (try dsimp only at hSw); go_simp; with_reducible rfl)); exact hH)
    try simp only [Act.put, List.getElem_toArray, List.getElem_cons_succ, List.getElem_cons_zero, List.setIfInBounds_toArray, List.set_cons_zero, List.set_cons_succ]
    first | (refine wpAnyH_take (i := 10) (v := undef) rfl ?_ ?_ ?_ (fun _ _ _ h => h) ?_ ?_ ?_; kernel_rfl; kernel_rfl; kernel_rfl; exact Or.inr ⟨by rfl, rfl⟩; exact hH) | (refine wpAnyH_take (i := 10) (v := ?_) rfl ?_ ?_ ?_ (fun _ _ _ h => h) ?_ ?_ ?_; rotate_left; kernel_rfl; kernel_rfl; kernel_rfl; (focus (refine Or.inl ⟨by rfl, ?_⟩; intro w' hSw; (try dsimp only at hSw); go_simp)); exact hH) | (refine wpAnyH_take (i := 10) (v := ?_) rfl ?_ ?_ ?_ (fun _ _ _ h => h) ?_ ?_ ?_; rotate_left; kernel_rfl; kernel_rfl; kernel_rfl; (focus (refine Or.inl ⟨by rfl, ?_⟩; intro w' hSw; (try dsimp only at hSw); go_simp; with_reducible rfl)); exact hH)
    try simp only [Act.put, List.getElem_toArray, List.getElem_cons_succ, List.getElem_cons_zero, List.setIfInBounds_toArray, List.set_cons_zero, List.set_cons_succ]
    first | (refine wpAnyH_take (i := 11) (v := undef) rfl ?_ ?_ ?_ (fun _ _ _ h => h) ?_ ?_ ?_; kernel_rfl; kernel_rfl; kernel_rfl; exact Or.inr ⟨by rfl, rfl⟩; exact hH) | (refine wpAnyH_take (i := 11) (v := ?_) rfl ?_ ?_ ?_ (fun _ _ _ h => h) ?_ ?_ ?_; rotate_left; kernel_rfl; kernel_rfl; kernel_rfl; (focus (refine Or.inl ⟨by rfl, ?_⟩; intro w' hSw; (try dsimp only at hSw); go_simp)); exact hH) | (refine wpAnyH_take (i := 11) (v := ?_) rfl ?_ ?_ ?_ (fun _ _ _ h => h) ?_ ?_ ?_; rotate_left; kernel_rfl; kernel_rfl; kernel_rfl; (focus (refine Or.inl ⟨by rfl, ?_⟩; intro w' hSw; (try dsimp only at hSw); go_simp; with_reducible rfl)); exact hH)
    try simp only [Act.put, List.getElem_toArray, List.getElem_cons_succ, List.getElem_cons_zero, List.setIfInBounds_toArray, List.set_cons_zero, List.set_cons_succ]
    first | (refine wpAnyH_take (i := 12) (v := undef) rfl ?_ ?_ ?_ (fun _ _ _ h => h) ?_ ?_ ?_; kernel_rfl; kernel_rfl; kernel_rfl; exact Or.inr ⟨by rfl, rfl⟩; exact hH) | (refine wpAnyH_take (i := 12) (v := ?_) rfl ?_ ?_ ?_ (fun _ _ _ h => h) ?_ ?_ ?_; rotate_left; kernel_rfl; kernel_rfl; kernel_rfl; (focus (refine Or.inl ⟨by rfl, ?_⟩; intro w' hSw; (try dsimp only at hSw); go_simp)); exact hH) | (refine wpAnyH_take (i := 12) (v := ?_) rfl ?_ ?_ ?_ (fun _ _ _ h => h) ?_ ?_ ?_; rotate_left; kernel_rfl; kernel_rfl; kernel_rfl; (focus (refine Or.inl ⟨by rfl, ?_⟩; intro w' hSw; (try dsimp only at hSw); go_simp; with_reducible rfl)); exact hH)
    try simp only [Act.put, List.getElem_toArray, List.getElem_cons_succ, List.getElem_cons_zero, List.setIfInBounds_toArray, List.set_cons_zero, List.set_cons_succ]
    refine wpAnyH_done (by kernel_rfl) ?_ _
    refine NoPanic.normal ?_
    have hbD := hH.2
    clear hH
    have hs := HW.out.next hbD
    have HSF := Lib.hid hs
    clear hs hbD
    go_wp2_with fail
    go_ret
    refine ⟨.nil, b, rfl, ⟨⟨rfl, fun hh => by cases hh⟩, trivial, ?_, List.Perm.refl _, HSF.out.tre⟩, ?_⟩
    · rw [HB.out]; exact HSF.out.fr
    · have : del kk [(kk, vv)] = [] := by simp [del]
      exact this.symm
  | node b2 c2 l2 k2 v2 s2 r2 =>
    obtain ⟨bb, hbb⟩ : ∃ bb : Bool, decide (k' = k) = bb := ⟨_, rfl⟩
    have hiff : (bb != false) = true ↔ k' = k := by rw [← hbb]; simp
    have HKE := Lib.hid (fun w => eq_key k' k (bb != false) w hiff)
    have HSTEP := Lib.hid (RB.right_step2 HP.out (by rw [HE.out]; intro e; cases e))
    have HLN := Lib.hid (fun hc => RB.goR2_left HP.out (by rw [HE.out]; intro e; cases e) hc)
    clear hbb hiff
    have KP : Hid (∀ w', Below (wo.heap.size) wo w' → (w'.cell? ⟨w.heap.size, 0, none⟩ = some (.int .u64 k.1) ∧ w'.cell? ⟨w.heap.size, 1, none⟩ = some (.int .i64 k.2) ∧ w'.cell? ⟨b', 0, none⟩ = some (.int .u64 k'.1) ∧ w'.cell? ⟨b', 1, none⟩ = some (.int .i64 k'.2) ∧ w'.cell? ⟨b', 7, none⟩ = some (.pointer (some ⟨b2, 0, none⟩))) ∧ Below (wo.heap.size) wo w') := fun w' hb => ⟨⟨(HKY.out.next hb).get 0 rfl, (HKY.out.next hb).get 1 rfl, (HW.out.at.1.next hb).get 0 rfl, (HW.out.at.1.next hb).get 1 rfl, (HW.out.at.1.next hb).get 7 rfl⟩, hb⟩
    go_cut [67] (fun cv wc => cv = .bool false ∧ StH w wc T B (.node b' c' l' k' v' s' (.node b2 c2 l2 k2 v2 s2 r2)) ∧ Blk wc w.heap.size 31 #[.int .u64 k.1, .int .i64 k.2])
    case first =>
      cases bb with
      | false =>
        refine wp_region_noPanic ?_
        refine wp_region_held_drew (S := fun w' => (w'.cell? ⟨w.heap.size, 0, none⟩ = some (.int .u64 k.1) ∧ w'.cell? ⟨w.heap.size, 1, none⟩ = some (.int .i64 k.2) ∧ w'.cell? ⟨b', 0, none⟩ = some (.int .u64 k'.1) ∧ w'.cell? ⟨b', 1, none⟩ = some (.int .i64 k'.2) ∧ w'.cell? ⟨b', 7, none⟩ = some (.pointer (some ⟨b2, 0, none⟩))) ∧ Below (wo.heap.size) wo w') (by kernel_rfl) (KP.out _ (below_of_drew ((Below.refl wo.heap.size wo)))) (fun hH => ?_)
        first | (refine wpAnyH_take (i := 0) (v := undef) rfl ?_ ?_ ?_ (fun _ _ _ h => h) ?_ ?_ ?_; kernel_rfl; kernel_rfl; kernel_rfl; exact Or.inr ⟨by rfl, rfl⟩; exact hH) | (refine wpAnyH_take (i := 0) (v := ?_) rfl ?_ ?_ ?_ (fun _ _ _ h => h) ?_ ?_ ?_; rotate_left; kernel_rfl; kernel_rfl; kernel_rfl; (focus (refine Or.inl ⟨by rfl, ?_⟩; intro w' hSw; (try dsimp only at hSw); go_simp)); exact hH) | (refine wpAnyH_take (i := 0) (v := ?_) rfl ?_ ?_ ?_ (fun _ _ _ h => h) ?_ ?_ ?_; rotate_left; kernel_rfl; kernel_rfl; kernel_rfl; (focus (refine Or.inl ⟨by rfl, ?_⟩; intro w' hSw; (try dsimp only at hSw); go_simp; with_reducible rfl)); exact hH)
        try simp only [Act.put, List.getElem_toArray, List.getElem_cons_succ, List.getElem_cons_zero, List.setIfInBounds_toArray, List.set_cons_zero, List.set_cons_succ]
        first | (refine wpAnyH_take (i := 1) (v := undef) rfl ?_ ?_ ?_ (fun _ _ _ h => h) ?_ ?_ ?_; kernel_rfl; kernel_rfl; kernel_rfl; exact Or.inr ⟨by rfl, rfl⟩; exact hH) | (refine wpAnyH_take (i := 1) (v := ?_) rfl ?_ ?_ ?_ (fun _ _ _ h => h) ?_ ?_ ?_; rotate_left; kernel_rfl; kernel_rfl; kernel_rfl; (focus (refine Or.inl ⟨by rfl, ?_⟩; intro w' hSw; (try dsimp only at hSw); go_simp)); exact hH) | (refine wpAnyH_take (i := 1) (v := ?_) rfl ?_ ?_ ?_ (fun _ _ _ h => h) ?_ ?_ ?_; rotate_left; kernel_rfl; kernel_rfl; kernel_rfl; (focus (refine Or.inl ⟨by rfl, ?_⟩; intro w' hSw; (try dsimp only at hSw); go_simp; with_reducible rfl)); exact hH)
        try simp only [Act.put, List.getElem_toArray, List.getElem_cons_succ, List.getElem_cons_zero, List.setIfInBounds_toArray, List.set_cons_zero, List.set_cons_succ]
        first | (refine wpAnyH_take (i := 2) (v := undef) rfl ?_ ?_ ?_ (fun _ _ _ h => h) ?_ ?_ ?_; kernel_rfl; kernel_rfl; kernel_rfl; exact Or.inr ⟨by rfl, rfl⟩; exact hH) | (refine wpAnyH_take (i := 2) (v := ?_) rfl ?_ ?_ ?_ (fun _ _ _ h => h) ?_ ?_ ?_; rotate_left; kernel_rfl; kernel_rfl; kernel_rfl; (focus (refine Or.inl ⟨by rfl, ?_⟩; intro w' hSw; (try dsimp only at hSw); go_simp)); exact hH) | (refine wpAnyH_take (i := 2) (v := ?_) rfl ?_ ?_ ?_ (fun _ _ _ h => h) ?_ ?_ ?_; rotate_left; kernel_rfl; kernel_rfl; kernel_rfl; (focus (refine Or.inl ⟨by rfl, ?_⟩; intro w' hSw; (try dsimp only at hSw); go_simp; with_reducible rfl)); exact hH)
        try simp only [Act.put, List.getElem_toArray, List.getElem_cons_succ, List.getElem_cons_zero, List.setIfInBounds_toArray, List.set_cons_zero, List.set_cons_succ]
        first | (refine wpAnyH_take (i := 3) (v := undef) rfl ?_ ?_ ?_ (fun _ _ _ h => h) ?_ ?_ ?_; kernel_rfl; kernel_rfl; kernel_rfl; exact Or.inr ⟨by rfl, rfl⟩; exact hH) | (refine wpAnyH_take (i := 3) (v := ?_) rfl ?_ ?_ ?_ (fun _ _ _ h => h) ?_ ?_ ?_; rotate_left; kernel_rfl; kernel_rfl; kernel_rfl; (focus (refine Or.inl ⟨by rfl, ?_⟩; intro w' hSw; (try dsimp only at hSw); go_simp)); exact hH) | (refine wpAnyH_take (i := 3) (v := ?_) rfl ?_ ?_ ?_ (fun _ _ _ h => h) ?_ ?_ ?_; rotate_left; kernel_rfl; kernel_rfl; kernel_rfl; (focus (refine Or.inl ⟨by rfl, ?_⟩; intro w' hSw; (try dsimp only at hSw); go_simp; with_reducible rfl)); exact hH)
        try simp only [Act.put, List.getElem_toArray, List.getElem_cons_succ, List.getElem_cons_zero, List.setIfInBounds_toArray, List.set_cons_zero, List.set_cons_succ]
        first | (refine wpAnyH_take (i := 4) (v := undef) rfl ?_ ?_ ?_ (fun _ _ _ h => h) ?_ ?_ ?_; kernel_rfl; kernel_rfl; kernel_rfl; exact Or.inr ⟨by rfl, rfl⟩; exact hH) | (refine wpAnyH_take (i := 4) (v := ?_) rfl ?_ ?_ ?_ (fun _ _ _ h => h) ?_ ?_ ?_; rotate_left; kernel_rfl; kernel_rfl; kernel_rfl; (focus (refine Or.inl ⟨by rfl, ?_⟩; intro w' hSw; (try dsimp only at hSw); go_simp)); exact hH) | (refine wpAnyH_take (i := 4) (v := ?_) rfl ?_ ?_ ?_ (fun _ _ _ h => h) ?_ ?_ ?_; rotate_left; kernel_rfl; kernel_rfl; kernel_rfl; (focus (refine Or.inl ⟨by rfl, ?_⟩; intro w' hSw; (try dsimp only at hSw); go_simp; with_reducible rfl)); exact hH)
        try simp only [Act.put, List.getElem_toArray, List.getElem_cons_succ, List.getElem_cons_zero, List.setIfInBounds_toArray, List.set_cons_zero, List.set_cons_succ]
        (refine wpAnyH_take (i := 5) (v := .bool false) rfl ?_ ?_ ?_ (fun _ _ _ h => h) ?_ ?_ ?_; kernel_rfl; kernel_rfl; kernel_rfl; exact yields_cmp rfl false 31 _ _ _ rfl _ _ rfl rfl false (by kernel_rfl) HKE.out; exact hH)
        try simp only [Act.put, List.getElem_toArray, List.getElem_cons_succ, List.getElem_cons_zero, List.setIfInBounds_toArray, List.set_cons_zero, List.set_cons_succ]
        first | (refine wpAnyH_take (i := 6) (v := undef) rfl ?_ ?_ ?_ (fun _ _ _ h => h) ?_ ?_ ?_; kernel_rfl; kernel_rfl; kernel_rfl; exact Or.inr ⟨by rfl, rfl⟩; exact hH) | (refine wpAnyH_take (i := 6) (v := ?_) rfl ?_ ?_ ?_ (fun _ _ _ h => h) ?_ ?_ ?_; rotate_left; kernel_rfl; kernel_rfl; kernel_rfl; (focus (refine Or.inl ⟨by rfl, ?_⟩; intro w' hSw; (try dsimp only at hSw); go_simp)); exact hH) | (refine wpAnyH_take (i := 6) (v := ?_) rfl ?_ ?_ ?_ (fun _ _ _ h => h) ?_ ?_ ?_; rotate_left; kernel_rfl; kernel_rfl; kernel_rfl; (focus (refine Or.inl ⟨by rfl, ?_⟩; intro w' hSw; (try dsimp only at hSw); go_simp; with_reducible rfl)); exact hH)
        try simp only [Act.put, List.getElem_toArray, List.getElem_cons_succ, List.getElem_cons_zero, List.setIfInBounds_toArray, List.set_cons_zero, List.set_cons_succ]
        first | (refine wpAnyH_take (i := 7) (v := undef) rfl ?_ ?_ ?_ (fun _ _ _ h => h) ?_ ?_ ?_; kernel_rfl; kernel_rfl; kernel_rfl; exact Or.inr ⟨by rfl, rfl⟩; exact hH) | (refine wpAnyH_take (i := 7) (v := ?_) rfl ?_ ?_ ?_ (fun _ _ _ h => h) ?_ ?_ ?_; rotate_left; kernel_rfl; kernel_rfl; kernel_rfl; (focus (refine Or.inl ⟨by rfl, ?_⟩; intro w' hSw; (try dsimp only at hSw); go_simp)); exact hH) | (refine wpAnyH_take (i := 7) (v := ?_) rfl ?_ ?_ ?_ (fun _ _ _ h => h) ?_ ?_ ?_; rotate_left; kernel_rfl; kernel_rfl; kernel_rfl; (focus (refine Or.inl ⟨by rfl, ?_⟩; intro w' hSw; (try dsimp only at hSw); go_simp; with_reducible rfl)); exact hH)
        try simp only [Act.put, List.getElem_toArray, List.getElem_cons_succ, List.getElem_cons_zero, List.setIfInBounds_toArray, List.set_cons_zero, List.set_cons_succ]
        first | (refine wpAnyH_take (i := 8) (v := undef) rfl ?_ ?_ ?_ (fun _ _ _ h => h) ?_ ?_ ?_; kernel_rfl; kernel_rfl; kernel_rfl; exact Or.inr ⟨by rfl, rfl⟩; exact hH) | (refine wpAnyH_take (i := 8) (v := ?_) rfl ?_ ?_ ?_ (fun _ _ _ h => h) ?_ ?_ ?_; rotate_left; kernel_rfl; kernel_rfl; kernel_rfl; (focus (refine Or.inl ⟨by rfl, ?_⟩; intro w' hSw; (try dsimp only at hSw); go_simp)); exact hH) | (refine wpAnyH_take (i := 8) (v := ?_) rfl ?_ ?_ ?_ (fun _ _ _ h => h) ?_ ?_ ?_; rotate_left; kernel_rfl; kernel_rfl; kernel_rfl; (focus (refine Or.inl ⟨by rfl, ?_⟩; intro w' hSw; (try dsimp only at hSw); go_simp; with_reducible rfl)); exact hH)
        try simp only [Act.put, List.getElem_toArray, List.getElem_cons_succ, List.getElem_cons_zero, List.setIfInBounds_toArray, List.set_cons_zero, List.set_cons_succ]
        first | (refine wpAnyH_take (i := 9) (v := undef) rfl ?_ ?_ ?_ (fun _ _ _ h => h) ?_ ?_ ?_; kernel_rfl; kernel_rfl; kernel_rfl; exact Or.inr ⟨by rfl, rfl⟩; exact hH) | (refine wpAnyH_take (i := 9) (v := ?_) rfl ?_ ?_ ?_ (fun _ _ _ h => h) ?_ ?_ ?_; rotate_left; kernel_rfl; kernel_rfl; kernel_rfl; (focus (refine Or.inl ⟨by rfl, ?_⟩; intro w' hSw; (try dsimp only at hSw); go_simp)); exact hH) | (refine wpAnyH_take (i := 9) (v := ?_) rfl ?_ ?_ ?_ (fun _ _ _ h => h) ?_ ?_ ?_; rotate_left; kernel_rfl; kernel_rfl; kernel_rfl; (focus (refine Or.inl ⟨by rfl, ?_⟩; intro w' hSw; (try dsimp only at hSw); go_simp; with_reducible rfl)); exact hH)
        try simp only [Act.put, List.getElem_toArray, List.getElem_cons_succ, List.getElem_cons_zero, List.setIfInBounds_toArray, List.set_cons_zero, List.set_cons_succ]
        first | (refine wpAnyH_take (i := 10) (v := undef) rfl ?_ ?_ ?_ (fun _ _ _ h => h) ?_ ?_ ?_; kernel_rfl; kernel_rfl; kernel_rfl; exact Or.inr ⟨by rfl, rfl⟩; exact hH) | (refine wpAnyH_take (i := 10) (v := ?_) rfl ?_ ?_ ?_ (fun _ _ _ h => h) ?_ ?_ ?_; rotate_left; kernel_rfl; kernel_rfl; kernel_rfl; (focus (refine Or.inl ⟨by rfl, ?_⟩; intro w' hSw; (try dsimp only at hSw); go_simp)); exact hH) | (refine wpAnyH_take (i := 10) (v := ?_) rfl ?_ ?_ ?_ (fun _ _ _ h => h) ?_ ?_ ?_; rotate_left; kernel_rfl; kernel_rfl; kernel_rfl; (focus (refine Or.inl ⟨by rfl, ?_⟩; intro w' hSw; (try dsimp only at hSw); go_simp; with_reducible rfl)); exact hH)
        try simp only [Act.put, List.getElem_toArray, List.getElem_cons_succ, List.getElem_cons_zero, List.setIfInBounds_toArray, List.set_cons_zero, List.set_cons_succ]
        first | (refine wpAnyH_take (i := 11) (v := undef) rfl ?_ ?_ ?_ (fun _ _ _ h => h) ?_ ?_ ?_; kernel_rfl; kernel_rfl; kernel_rfl; exact Or.inr ⟨by rfl, rfl⟩; exact hH) | (refine wpAnyH_take (i := 11) (v := ?_) rfl ?_ ?_ ?_ (fun _ _ _ h => h) ?_ ?_ ?_; rotate_left; kernel_rfl; kernel_rfl; kernel_rfl; (focus (refine Or.inl ⟨by rfl, ?_⟩; intro w' hSw; (try dsimp only at hSw); go_simp)); exact hH) | (refine wpAnyH_take (i := 11) (v := ?_) rfl ?_ ?_ ?_ (fun _ _ _ h => h) ?_ ?_ ?_; rotate_left; kernel_rfl; kernel_rfl; kernel_rfl; (focus (refine Or.inl ⟨by rfl, ?_⟩; intro w' hSw; (try dsimp only at hSw); go_simp; with_reducible rfl)); exact hH)
        try simp only [Act.put, List.getElem_toArray, List.getElem_cons_succ, List.getElem_cons_zero, List.setIfInBounds_toArray, List.set_cons_zero, List.set_cons_succ]
        first | (refine wpAnyH_take (i := 12) (v := undef) rfl ?_ ?_ ?_ (fun _ _ _ h => h) ?_ ?_ ?_; kernel_rfl; kernel_rfl; kernel_rfl; exact Or.inr ⟨by rfl, rfl⟩; exact hH) | (refine wpAnyH_take (i := 12) (v := ?_) rfl ?_ ?_ ?_ (fun _ _ _ h => h) ?_ ?_ ?_; rotate_left; kernel_rfl; kernel_rfl; kernel_rfl; (focus (refine Or.inl ⟨by rfl, ?_⟩; intro w' hSw; (try dsimp only at hSw); go_simp)); exact hH) | (refine wpAnyH_take (i := 12) (v := ?_) rfl ?_ ?_ ?_ (fun _ _ _ h => h) ?_ ?_ ?_; rotate_left; kernel_rfl; kernel_rfl; kernel_rfl; (focus (refine Or.inl ⟨by rfl, ?_⟩; intro w' hSw; (try dsimp only at hSw); go_simp; with_reducible rfl)); exact hH)
        try simp only [Act.put, List.getElem_toArray, List.getElem_cons_succ, List.getElem_cons_zero, List.setIfInBounds_toArray, List.set_cons_zero, List.set_cons_succ]
        refine wpAnyH_done (by kernel_rfl) ?_ _
        refine NoPanic.normal ?_
        have hbD := hH.2
        clear hH
        have HSF := Lib.hid (And.intro (HW.out.next hbD) (HKY.out.next hbD))
        clear hbD
        go_wp2_with fail
        go_meet
        exact ⟨rfl, HSF.out⟩
      | true =>
        refine wp_region_noPanic ?_
        refine wp_region_held_drew (S := fun w' => (w'.cell? ⟨w.heap.size, 0, none⟩ = some (.int .u64 k.1) ∧ w'.cell? ⟨w.heap.size, 1, none⟩ = some (.int .i64 k.2) ∧ w'.cell? ⟨b', 0, none⟩ = some (.int .u64 k'.1) ∧ w'.cell? ⟨b', 1, none⟩ = some (.int .i64 k'.2) ∧ w'.cell? ⟨b', 7, none⟩ = some (.pointer (some ⟨b2, 0, none⟩))) ∧ Below (wo.heap.size) wo w') (by kernel_rfl) (KP.out _ (below_of_drew ((Below.refl wo.heap.size wo)))) (fun hH => ?_)
        first | (refine wpAnyH_take (i := 0) (v := undef) rfl ?_ ?_ ?_ (fun _ _ _ h => h) ?_ ?_ ?_; kernel_rfl; kernel_rfl; kernel_rfl; exact Or.inr ⟨by rfl, rfl⟩; exact hH) | (refine wpAnyH_take (i := 0) (v := ?_) rfl ?_ ?_ ?_ (fun _ _ _ h => h) ?_ ?_ ?_; rotate_left; kernel_rfl; kernel_rfl; kernel_rfl; (focus (refine Or.inl ⟨by rfl, ?_⟩; intro w' hSw; (try dsimp only at hSw); go_simp)); exact hH) | (refine wpAnyH_take (i := 0) (v := ?_) rfl ?_ ?_ ?_ (fun _ _ _ h => h) ?_ ?_ ?_; rotate_left; kernel_rfl; kernel_rfl; kernel_rfl; (focus (refine Or.inl ⟨by rfl, ?_⟩; intro w' hSw; (try dsimp only at hSw); go_simp; with_reducible rfl)); exact hH)
        try simp only [Act.put, List.getElem_toArray, List.getElem_cons_succ, List.getElem_cons_zero, List.setIfInBounds_toArray, List.set_cons_zero, List.set_cons_succ]
        first | (refine wpAnyH_take (i := 1) (v := undef) rfl ?_ ?_ ?_ (fun _ _ _ h => h) ?_ ?_ ?_; kernel_rfl; kernel_rfl; kernel_rfl; exact Or.inr ⟨by rfl, rfl⟩; exact hH) | (refine wpAnyH_take (i := 1) (v := ?_) rfl ?_ ?_ ?_ (fun _ _ _ h => h) ?_ ?_ ?_; rotate_left; kernel_rfl; kernel_rfl; kernel_rfl; (focus (refine Or.inl ⟨by rfl, ?_⟩; intro w' hSw; (try dsimp only at hSw); go_simp)); exact hH) | (refine wpAnyH_take (i := 1) (v := ?_) rfl ?_ ?_ ?_ (fun _ _ _ h => h) ?_ ?_ ?_; rotate_left; kernel_rfl; kernel_rfl; kernel_rfl; (focus (refine Or.inl ⟨by rfl, ?_⟩; intro w' hSw; (try dsimp only at hSw); go_simp; with_reducible rfl)); exact hH)
        try simp only [Act.put, List.getElem_toArray, List.getElem_cons_succ, List.getElem_cons_zero, List.setIfInBounds_toArray, List.set_cons_zero, List.set_cons_succ]
        first | (refine wpAnyH_take (i := 2) (v := undef) rfl ?_ ?_ ?_ (fun _ _ _ h => h) ?_ ?_ ?_; kernel_rfl; kernel_rfl; kernel_rfl; exact Or.inr ⟨by rfl, rfl⟩; exact hH) | (refine wpAnyH_take (i := 2) (v := ?_) rfl ?_ ?_ ?_ (fun _ _ _ h => h) ?_ ?_ ?_; rotate_left; kernel_rfl; kernel_rfl; kernel_rfl; (focus (refine Or.inl ⟨by rfl, ?_⟩; intro w' hSw; (try dsimp only at hSw); go_simp)); exact hH) | (refine wpAnyH_take (i := 2) (v := ?_) rfl ?_ ?_ ?_ (fun _ _ _ h => h) ?_ ?_ ?_; rotate_left; kernel_rfl; kernel_rfl; kernel_rfl; (focus (refine Or.inl ⟨by rfl, ?_⟩; intro w' hSw; (try dsimp only at hSw); go_simp; with_reducible rfl)); exact hH)
        try simp only [Act.put, List.getElem_toArray, List.getElem_cons_succ, List.getElem_cons_zero, List.setIfInBounds_toArray, List.set_cons_zero, List.set_cons_succ]
        first | (refine wpAnyH_take (i := 3) (v := undef) rfl ?_ ?_ ?_ (fun _ _ _ h => h) ?_ ?_ ?_; kernel_rfl; kernel_rfl; kernel_rfl; exact Or.inr ⟨by rfl, rfl⟩; exact hH) | (refine wpAnyH_take (i := 3) (v := ?_) rfl ?_ ?_ ?_ (fun _ _ _ h => h) ?_ ?_ ?_; rotate_left; kernel_rfl; kernel_rfl; kernel_rfl; (focus (refine Or.inl ⟨by rfl, ?_⟩; intro w' hSw; (try dsimp only at hSw); go_simp)); exact hH) | (refine wpAnyH_take (i := 3) (v := ?_) rfl ?_ ?_ ?_ (fun _ _ _ h => h) ?_ ?_ ?_; rotate_left; kernel_rfl; kernel_rfl; kernel_rfl; (focus (refine Or.inl ⟨by rfl, ?_⟩; intro w' hSw; (try dsimp only at hSw); go_simp; with_reducible rfl)); exact hH)
        try simp only [Act.put, List.getElem_toArray, List.getElem_cons_succ, List.getElem_cons_zero, List.setIfInBounds_toArray, List.set_cons_zero, List.set_cons_succ]
        first | (refine wpAnyH_take (i := 4) (v := undef) rfl ?_ ?_ ?_ (fun _ _ _ h => h) ?_ ?_ ?_; kernel_rfl; kernel_rfl; kernel_rfl; exact Or.inr ⟨by rfl, rfl⟩; exact hH) | (refine wpAnyH_take (i := 4) (v := ?_) rfl ?_ ?_ ?_ (fun _ _ _ h => h) ?_ ?_ ?_; rotate_left; kernel_rfl; kernel_rfl; kernel_rfl; (focus (refine Or.inl ⟨by rfl, ?_⟩; intro w' hSw; (try dsimp only at hSw); go_simp)); exact hH) | (refine wpAnyH_take (i := 4) (v := ?_) rfl ?_ ?_ ?_ (fun _ _ _ h => h) ?_ ?_ ?_; rotate_left; kernel_rfl; kernel_rfl; kernel_rfl; (focus (refine Or.inl ⟨by rfl, ?_⟩; intro w' hSw; (try dsimp only at hSw); go_simp; with_reducible rfl)); exact hH)
        try simp only [Act.put, List.getElem_toArray, List.getElem_cons_succ, List.getElem_cons_zero, List.setIfInBounds_toArray, List.set_cons_zero, List.set_cons_succ]
        (refine wpAnyH_take (i := 5) (v := .bool true) rfl ?_ ?_ ?_ (fun _ _ _ h => h) ?_ ?_ ?_; kernel_rfl; kernel_rfl; kernel_rfl; exact yields_cmp rfl false 31 _ _ _ rfl _ _ rfl rfl true (by kernel_rfl) HKE.out; exact hH)
        try simp only [Act.put, List.getElem_toArray, List.getElem_cons_succ, List.getElem_cons_zero, List.setIfInBounds_toArray, List.set_cons_zero, List.set_cons_succ]
        first | (refine wpAnyH_take (i := 6) (v := undef) rfl ?_ ?_ ?_ (fun _ _ _ h => h) ?_ ?_ ?_; kernel_rfl; kernel_rfl; kernel_rfl; exact Or.inr ⟨by rfl, rfl⟩; exact hH) | (refine wpAnyH_take (i := 6) (v := ?_) rfl ?_ ?_ ?_ (fun _ _ _ h => h) ?_ ?_ ?_; rotate_left; kernel_rfl; kernel_rfl; kernel_rfl; (focus (refine Or.inl ⟨by rfl, ?_⟩; intro w' hSw; (try dsimp only at hSw); go_simp)); exact hH) | (refine wpAnyH_take (i := 6) (v := ?_) rfl ?_ ?_ ?_ (fun _ _ _ h => h) ?_ ?_ ?_; rotate_left; kernel_rfl; kernel_rfl; kernel_rfl; (focus (refine Or.inl ⟨by rfl, ?_⟩; intro w' hSw; (try dsimp only at hSw); go_simp; with_reducible rfl)); exact hH)
        try simp only [Act.put, List.getElem_toArray, List.getElem_cons_succ, List.getElem_cons_zero, List.setIfInBounds_toArray, List.set_cons_zero, List.set_cons_succ]
        first | (refine wpAnyH_take (i := 7) (v := undef) rfl ?_ ?_ ?_ (fun _ _ _ h => h) ?_ ?_ ?_; kernel_rfl; kernel_rfl; kernel_rfl; exact Or.inr ⟨by rfl, rfl⟩; exact hH) | (refine wpAnyH_take (i := 7) (v := ?_) rfl ?_ ?_ ?_ (fun _ _ _ h => h) ?_ ?_ ?_; rotate_left; kernel_rfl; kernel_rfl; kernel_rfl; (focus (refine Or.inl ⟨by rfl, ?_⟩; intro w' hSw; (try dsimp only at hSw); go_simp)); exact hH) | (refine wpAnyH_take (i := 7) (v := ?_) rfl ?_ ?_ ?_ (fun _ _ _ h => h) ?_ ?_ ?_; rotate_left; kernel_rfl; kernel_rfl; kernel_rfl; (focus (refine Or.inl ⟨by rfl, ?_⟩; intro w' hSw; (try dsimp only at hSw); go_simp; with_reducible rfl)); exact hH)
        try simp only [Act.put, List.getElem_toArray, List.getElem_cons_succ, List.getElem_cons_zero, List.setIfInBounds_toArray, List.set_cons_zero, List.set_cons_succ]
        first | (refine wpAnyH_take (i := 8) (v := undef) rfl ?_ ?_ ?_ (fun _ _ _ h => h) ?_ ?_ ?_; kernel_rfl; kernel_rfl; kernel_rfl; exact Or.inr ⟨by rfl, rfl⟩; exact hH) | (refine wpAnyH_take (i := 8) (v := ?_) rfl ?_ ?_ ?_ (fun _ _ _ h => h) ?_ ?_ ?_; rotate_left; kernel_rfl; kernel_rfl; kernel_rfl; (focus (refine Or.inl ⟨by rfl, ?_⟩; intro w' hSw; (try dsimp only at hSw); go_simp)); exact hH) | (refine wpAnyH_take (i := 8) (v := ?_) rfl ?_ ?_ ?_ (fun _ _ _ h => h) ?_ ?_ ?_; rotate_left; kernel_rfl; kernel_rfl; kernel_rfl; (focus (refine Or.inl ⟨by rfl, ?_⟩; intro w' hSw; (try dsimp only at hSw); go_simp; with_reducible rfl)); exact hH)
        try simp only [Act.put, List.getElem_toArray, List.getElem_cons_succ, List.getElem_cons_zero, List.setIfInBounds_toArray, List.set_cons_zero, List.set_cons_succ]
        first | (refine wpAnyH_take (i := 9) (v := undef) rfl ?_ ?_ ?_ (fun _ _ _ h => h) ?_ ?_ ?_; kernel_rfl; kernel_rfl; kernel_rfl; exact Or.inr ⟨by rfl, rfl⟩; exact hH) | (refine wpAnyH_take (i := 9) (v := ?_) rfl ?_ ?_ ?_ (fun _ _ _ h => h) ?_ ?_ ?_; rotate_left; kernel_rfl; kernel_rfl; kernel_rfl; (focus (refine Or.inl ⟨by rfl, ?_⟩; intro w' hSw; (try dsimp only at hSw); go_simp)); exact hH) | (refine wpAnyH_take (i := 9) (v := ?_) rfl ?_ ?_ ?_ (fun _ _ _ h => h) ?_ ?_ ?_; rotate_left; kernel_rfl; kernel_rfl; kernel_rfl; (focus (refine Or.inl ⟨by rfl, ?_⟩; intro w' hSw; (try dsimp only at hSw); go_simp; with_reducible rfl)); exact hH)
        try simp only [Act.put, List.getElem_toArray, List.getElem_cons_succ, List.getElem_cons_zero, List.setIfInBounds_toArray, List.set_cons_zero, List.set_cons_succ]
        first | (refine wpAnyH_take (i := 10) (v := undef) rfl ?_ ?_ ?_ (fun _ _ _ h => h) ?_ ?_ ?_; kernel_rfl; kernel_rfl; kernel_rfl; exact Or.inr ⟨by rfl, rfl⟩; exact hH) | (refine wpAnyH_take (i := 10) (v := ?_) rfl ?_ ?_ ?_ (fun _ _ _ h => h) ?_ ?_ ?_; rotate_left; kernel_rfl; kernel_rfl; kernel_rfl; (focus (refine Or.inl ⟨by rfl, ?_⟩; intro w' hSw; (try dsimp only at hSw); go_simp)); exact hH) | (refine wpAnyH_take (i := 10) (v := ?_) rfl ?_ ?_ ?_ (fun _ _ _ h => h) ?_ ?_ ?_; rotate_left; kernel_rfl; kernel_rfl; kernel_rfl; (focus (refine Or.inl ⟨by rfl, ?_⟩; intro w' hSw; (try dsimp only at hSw); go_simp; with_reducible rfl)); exact hH)
        try simp only [Act.put, List.getElem_toArray, List.getElem_cons_succ, List.getElem_cons_zero, List.setIfInBounds_toArray, List.set_cons_zero, List.set_cons_succ]
        first | (refine wpAnyH_take (i := 11) (v := undef) rfl ?_ ?_ ?_ (fun _ _ _ h => h) ?_ ?_ ?_; kernel_rfl; kernel_rfl; kernel_rfl; exact Or.inr ⟨by rfl, rfl⟩; exact hH) | (refine wpAnyH_take (i := 11) (v := ?_) rfl ?_ ?_ ?_ (fun _ _ _ h => h) ?_ ?_ ?_; rotate_left; kernel_rfl; kernel_rfl; kernel_rfl; (focus (refine Or.inl ⟨by rfl, ?_⟩; intro w' hSw; (try dsimp only at hSw); go_simp)); exact hH) | (refine wpAnyH_take (i := 11) (v := ?_) rfl ?_ ?_ ?_ (fun _ _ _ h => h) ?_ ?_ ?_; rotate_left; kernel_rfl; kernel_rfl; kernel_rfl; (focus (refine Or.inl ⟨by rfl, ?_⟩; intro w' hSw; (try dsimp only at hSw); go_simp; with_reducible rfl)); exact hH)
        try simp only [Act.put, List.getElem_toArray, List.getElem_cons_succ, List.getElem_cons_zero, List.setIfInBounds_toArray, List.set_cons_zero, List.set_cons_succ]
        first | (refine wpAnyH_take (i := 12) (v := undef) rfl ?_ ?_ ?_ (fun _ _ _ h => h) ?_ ?_ ?_; kernel_rfl; kernel_rfl; kernel_rfl; exact Or.inr ⟨by rfl, rfl⟩; exact hH) | (refine wpAnyH_take (i := 12) (v := ?_) rfl ?_ ?_ ?_ (fun _ _ _ h => h) ?_ ?_ ?_; rotate_left; kernel_rfl; kernel_rfl; kernel_rfl; (focus (refine Or.inl ⟨by rfl, ?_⟩; intro w' hSw; (try dsimp only at hSw); go_simp)); exact hH) | (refine wpAnyH_take (i := 12) (v := ?_) rfl ?_ ?_ ?_ (fun _ _ _ h => h) ?_ ?_ ?_; rotate_left; kernel_rfl; kernel_rfl; kernel_rfl; (focus (refine Or.inl ⟨by rfl, ?_⟩; intro w' hSw; (try dsimp only at hSw); go_simp; with_reducible rfl)); exact hH)
        try simp only [Act.put, List.getElem_toArray, List.getElem_cons_succ, List.getElem_cons_zero, List.setIfInBounds_toArray, List.set_cons_zero, List.set_cons_succ]
        refine wpAnyH_done (by kernel_rfl) ?_ _
        refine NoPanic.normal ?_
        have hbD := hH.2
        clear hH
        have HSF := Lib.hid (And.intro (HW.out.next hbD) (HKY.out.next hbD))
        clear hbD
        go_wp2_with fail
        go_meet
        exact ⟨rfl, HSF.out⟩
    case rest =>
    obtain ⟨rfl, hcut⟩ := hcut
    obtain ⟨wq, rfl⟩ : ∃ x : World, x = wc := ⟨_, rfl⟩
    clear KP HKE HW HKY
    have HW := Lib.hid hcut.1
    have HKY := Lib.hid hcut.2
    clear hcut bb
    have hbn : Blk wq b' 138 #[.int .u64 k'.1, .int .i64 k'.2, .int .u64 v', .int .u64 s'.1, .int .i64 s'.2, .bool c', ptrV l', .pointer (some ⟨b2, 0, none⟩)] ∧ RepH wq l' ∧ (Blk wq b2 138 #[.int .u64 k2.1, .int .i64 k2.2, .int .u64 v2, .int .u64 s2.1, .int .i64 s2.2, .bool c2, ptrV l2, ptrV r2] ∧ RepH wq l2 ∧ RepH wq r2) := HW.out.at
    have HBN := Lib.hid hbn
    have x0 : wq.cell? ⟨b', 7, none⟩ = some (.pointer (some ⟨b2, 0, none⟩)) := hbn.1.get 7 rfl
    have x1 : wq.cell? ⟨b2, 6, none⟩ = some (ptrV l2) := hbn.2.2.1.get 6 rfl
    have RL : Hid (RepH wq (.node b2 c2 l2 k2 v2 s2 r2)) := HW.out.at.2.2
    clear hbn
    go_upto_region 10 with (fail)
    go_cut [84] (fun cv wc => cv = .bool (!c2 && !l2.red) ∧ wq = wc)
    case first =>
      go_wp2_with fail
      have hi := rh_is (.node b2 c2 l2 k2 v2 s2 r2) wq RL.out
      rw [show ptrV (RB.node b2 c2 l2 k2 v2 s2 r2) = .pointer (some ⟨b2, 0, none⟩) from rfl, show RB.red (RB.node b2 c2 l2 k2 v2 s2 r2) = c2 from rfl] at hi
      with_reducible refine hi.mono ?_
      rintro e wx ⟨rfl, rfl⟩
      cases c2 with
      | true =>
        go_wp2_with fail
        go_meet
        exact ⟨rfl, rfl⟩
      | false =>
        go_wp2_with fail
        with_reducible refine (rh_is l2 wq HBN.out.2.2.2.1).mono ?_
        rintro e wx ⟨rfl, rfl⟩
        go_wp2_with fail
        go_meet
        exact ⟨rfl, rfl⟩
    case rest =>
    obtain ⟨rfl, rfl⟩ := hcut
    clear x0 x1
    go_upto_if 84 with (fail)
    go_cut [1] (fun hv wc => (∃ (b3 : Nat) (c3 : Bool) (l3 : RB (Int × Int)) (k3 : RK) (v3 : Int) (s3 : (Int × Int)) (r3 : RB (Int × Int)), hv = .pointer (some ⟨b3, 0, none⟩) ∧ RB.goR2 ofH minH (.node b' c' l' k' v' s' (.node b2 c2 l2 k2 v2 s2 r2)) = .node b3 c3 l3 k3 v3 s3 r3 ∧ StH w wc T B (.node b3 c3 l3 k3 v3 s3 r3)) ∧ Blk wc w.heap.size 31 #[.int .u64 k.1, .int .i64 k.2])
    case first =>
      cases hc : (!c2 && !l2.red) with
      | false =>
        go_wp2_with fail
        go_meet
        exact ⟨⟨b', c', l', k', v', s', _, rfl, if_neg (show ¬ ((!c2 && !l2.red) = true) from by rw [hc]; exact Bool.false_ne_true), HW.out⟩, HKY.out⟩
      | true =>
        have hln := HLN.out
        rw [HE.out] at hln
        obtain ⟨b4, c4, l4, k4, v4, s4, r4, hl4⟩ := hln hc
        have hl4 : l' = .node b4 c4 l4 k4 v4 s4 r4 := hl4
        clear hln
        subst hl4
        go_wp2_with fail
        with_reducible refine (rh_redRight T b' b4 b2 c' c4 c2 l4 r4 l2 r2 k' k4 k2 v' v4 v2 s' s4 s2 wq HW.out.rep HW.out.nodup HW.out.tre HW.out.notin).mono ?_
        rintro e w2 ⟨rfl, hk⟩
        obtain ⟨bz, cz, lz, kz, vz, sz, rz, nz, hz, _⟩ := HSTEP.out
        rw [HE.out] at hz
        have hz2 : RB.redRight ofH minH (.node b' c' (.node b4 c4 l4 k4 v4 s4 r4) k' v' s' (.node b2 c2 l2 k2 v2 s2 r2)) = .node bz cz lz kz vz sz rz := (if_pos (c := (!c2 && !l2.red) = true) hc).symm.trans hz
        rw [hz2] at hk ⊢
        have hkey := HKY.out.fr hk.fr (fun hx => by have := HLT.out _ (HW.out.perm.mem_iff.1 hx); omega)
        have HK2 := Lib.hid (And.intro (HW.out.joinB hk) hkey)
        clear hk hz2 hkey
        go_wp2_with fail
        go_meet
        exact ⟨⟨bz, cz, lz, kz, vz, sz, rz, rfl, hz, HK2.out.1⟩, HK2.out.2⟩
    case rest =>
    obtain ⟨⟨b3, c3, l3, k3, v3, s3, r3, rfl, he3, hS⟩, hkey⟩ := hcut
    obtain ⟨wt, rfl⟩ : ∃ x : World, x = wc := ⟨_, rfl⟩
    obtain ⟨bz, cz, lz, kz, vz, sz, rz, n1, hz, hpre, halt, hpost⟩ := HSTEP.out
    rw [HE.out, he3] at hz
    injection hz with q1 q2 q3 q4 q5 q6 q7
    subst q1 q2 q3 q4 q5 q6 q7
    have hit : l3.items ++ (k3, v3) :: r3.items = RB.items (.node b c l kk vv s r) := by
      have := RB.items_goR2 (of := ofH) (join := minH) (.node b' c' l' k' v' s' (.node b2 c2 l2 k2 v2 s2 r2))
      rw [he3] at this
      exact this.trans HITT.out
    have hR3 : Rises (l3.items ++ (k3, v3) :: r3.items) := by rw [hit]; exact HRG.out.1
    have hk3 : klt k k3 = false := by
      rcases RB.goR2_root he3 with e | e
      · rw [e]; exact H1.out.2
      · have h2 := (Rises.mid hR3).2.1 _ e
        exact Bool.eq_false_iff.2 fun h3 => by have := klt_trans h3 h2; rw [H1.out.2] at this; cases this
    have hg3 : ∃ v, get k (l3.items ++ (k3, v3) :: r3.items) = some v := by rw [hit]; exact HRG.out.2
    have halt2 : ∀ b c l kk2 vv s r, r3 = .node b c l kk2 vv s r → klt k kk2 = true → r.red = false := by
      intro b0 c0 l0 kk0 vv0 s0 r0 e hlt
      rcases halt with h1 | ⟨h1, b5, c5, l5, k5, v5, s5, r5, b6, c6, l6, v6, s6, r6, h2, h3⟩
      · rw [e] at h1; exact h1
      · rw [e] at h3
        injection h3 with q1 q2 q3 q4
        injection h2 with p1 p2 p3 p4
        rw [q4, ← p4, HK.out] at hlt
        cases hlt
    have hsz : r3.size ≤ N := by
      have e := hS.perm.length_eq
      rw [← HB.out] at e
      rw [RB.size_blocks, RB.size_blocks] at e
      have := HSZ.out
      simp only [RB.size] at e this
      omega
    have HL := Lib.hid (And.intro hpre (And.intro hpost (And.intro hit (And.intro hR3 (And.intro hk3 (And.intro hg3 (And.intro halt2 hsz)))))))
    have HW3 := Lib.hid hS
    have HKY3 := Lib.hid hkey
    clear hpre hpost hit hR3 hk3 hg3 halt halt2 hsz hS hkey he3 HSTEP HLN RL HBN HW HKY HE HITT H1
    have FACT : (b3 ∉ l3.blocks ∧ b3 ∉ r3.blocks) ∧ r3.blocks.Nodup ∧ (∀ x, x ∈ l3.blocks → x ∉ r3.blocks) ∧ T ≠ b3 ∧ T ∉ r3.blocks ∧ w.heap.size ∉ r3.blocks ∧ w.heap.size ≠ b3 := by
      have h1 := HW3.out.nodup
      have h2 := HW3.out.notin
      have h1' : (b3 :: (l3.blocks ++ r3.blocks)).Nodup := h1
      have h2' : T ∉ (b3 :: (l3.blocks ++ r3.blocks)) := h2
      have h0 : ∀ x ∈ (b3 :: (l3.blocks ++ r3.blocks)), x < w.heap.size := fun x hx => HLT.out x (HW3.out.perm.mem_iff.1 hx)
      obtain ⟨h3, h4⟩ := List.nodup_cons.1 h1'
      obtain ⟨h5, h6, h7⟩ := List.nodup_append.1 h4
      simp only [List.mem_cons, List.mem_append, not_or] at h2' h3
      exact ⟨h3, h6, fun x hx hx2 => h7 x hx x hx2 rfl, h2'.1, h2'.2.2, fun hx => by have := h0 _ (List.mem_cons_of_mem _ (List.mem_append.2 (Or.inr hx))); omega, fun e => by have := h0 b3 (List.mem_cons_self ..); omega⟩
    have HF := Lib.hid FACT
    clear FACT
    go_upto_region 12 with (fail)
    obtain ⟨bb, hbb⟩ : ∃ bb : Bool, decide (k3 = k) = bb := ⟨_, rfl⟩
    have hiff : ((!bb) != true) = true ↔ k3 = k := by rw [← hbb]; by_cases e : k3 = k <;> simp [e]
    have HKE := Lib.hid (fun w => eq_key k3 k ((!bb) != true) w (by rw [hiff]))
    have HBQ := Lib.hid hbb
    clear hbb hiff
    have KP : Hid (∀ w', Below (wt.heap.size) wt w' → (w'.cell? ⟨w.heap.size, 0, none⟩ = some (.int .u64 k.1) ∧ w'.cell? ⟨w.heap.size, 1, none⟩ = some (.int .i64 k.2) ∧ w'.cell? ⟨b3, 0, none⟩ = some (.int .u64 k3.1) ∧ w'.cell? ⟨b3, 1, none⟩ = some (.int .i64 k3.2)) ∧ Below (wt.heap.size) wt w') := fun w' hb => ⟨⟨(HKY3.out.next hb).get 0 rfl, (HKY3.out.next hb).get 1 rfl, (HW3.out.at.1.next hb).get 0 rfl, (HW3.out.at.1.next hb).get 1 rfl⟩, hb⟩
    cases bb with
    | false =>
      have hne : ¬ k3 = k := of_decide_eq_false HBQ.out
      have hlt : klt k3 k = true := by
        cases h : klt k3 k with
        | true => rfl
        | false => exact absurd (klt_tri h HL.out.2.2.2.2.1) hne
      obtain ⟨v0, hv0⟩ := HL.out.2.2.2.2.2.1
      have hgr := get_r (p := (k3, v3)) HL.out.2.2.2.1 hv0 hlt
      have HG := Lib.hid (And.intro hlt (show ∃ v, get k r3.items = some v from ⟨_, hgr⟩))
      clear hne hlt hv0 hgr
      refine wp_region_noPanic ?_
      refine wp_region_held_drew (S := fun w' => (w'.cell? ⟨w.heap.size, 0, none⟩ = some (.int .u64 k.1) ∧ w'.cell? ⟨w.heap.size, 1, none⟩ = some (.int .i64 k.2) ∧ w'.cell? ⟨b3, 0, none⟩ = some (.int .u64 k3.1) ∧ w'.cell? ⟨b3, 1, none⟩ = some (.int .i64 k3.2)) ∧ Below (wt.heap.size) wt w') (by kernel_rfl) (KP.out _ (below_of_drew ((Below.refl wt.heap.size wt)))) (fun hH => ?_)
      first | (refine wpAnyH_take (i := 0) (v := undef) rfl ?_ ?_ ?_ (fun _ _ _ h => h) ?_ ?_ ?_; kernel_rfl; kernel_rfl; kernel_rfl; exact Or.inr ⟨by rfl, rfl⟩; exact hH) | (refine wpAnyH_take (i := 0) (v := ?_) rfl ?_ ?_ ?_ (fun _ _ _ h => h) ?_ ?_ ?_; rotate_left; kernel_rfl; kernel_rfl; kernel_rfl; (focus (refine Or.inl ⟨by rfl, ?_⟩; intro w' hSw; (try dsimp only at hSw); go_simp)); exact hH) | (refine wpAnyH_take (i := 0) (v := ?_) rfl ?_ ?_ ?_ (fun _ _ _ h => h) ?_ ?_ ?_; rotate_left; kernel_rfl; kernel_rfl; kernel_rfl; (focus (refine Or.inl ⟨by rfl, ?_⟩; intro w' hSw; (try dsimp only at hSw); go_simp; with_reducible rfl)); exact hH)
      try simp only [Act.put, List.getElem_toArray, List.getElem_cons_succ, List.getElem_cons_zero, List.setIfInBounds_toArray, List.set_cons_zero, List.set_cons_succ]
      first | (refine wpAnyH_take (i := 1) (v := undef) rfl ?_ ?_ ?_ (fun _ _ _ h => h) ?_ ?_ ?_; kernel_rfl; kernel_rfl; kernel_rfl; exact Or.inr ⟨by rfl, rfl⟩; exact hH) | (refine wpAnyH_take (i := 1) (v := ?_) rfl ?_ ?_ ?_ (fun _ _ _ h => h) ?_ ?_ ?_; rotate_left; kernel_rfl; kernel_rfl; kernel_rfl; (focus (refine Or.inl ⟨by rfl, ?_⟩; intro w' hSw; (try dsimp only at hSw); go_simp)); exact hH) | (refine wpAnyH_take (i := 1) (v := ?_) rfl ?_ ?_ ?_ (fun _ _ _ h => h) ?_ ?_ ?_; rotate_left; kernel_rfl; kernel_rfl; kernel_rfl; (focus (refine Or.inl ⟨by rfl, ?_⟩; intro w' hSw; (try dsimp only at hSw); go_simp; with_reducible rfl)); exact hH)
      try simp only [Act.put, List.getElem_toArray, List.getElem_cons_succ, List.getElem_cons_zero, List.setIfInBounds_toArray, List.set_cons_zero, List.set_cons_succ]
      first | (refine wpAnyH_take (i := 2) (v := undef) rfl ?_ ?_ ?_ (fun _ _ _ h => h) ?_ ?_ ?_; kernel_rfl; kernel_rfl; kernel_rfl; exact Or.inr ⟨by rfl, rfl⟩; exact hH) | (refine wpAnyH_take (i := 2) (v := ?_) rfl ?_ ?_ ?_ (fun _ _ _ h => h) ?_ ?_ ?_; rotate_left; kernel_rfl; kernel_rfl; kernel_rfl; (focus (refine Or.inl ⟨by rfl, ?_⟩; intro w' hSw; (try dsimp only at hSw); go_simp)); exact hH) | (refine wpAnyH_take (i := 2) (v := ?_) rfl ?_ ?_ ?_ (fun _ _ _ h => h) ?_ ?_ ?_; rotate_left; kernel_rfl; kernel_rfl; kernel_rfl; (focus (refine Or.inl ⟨by rfl, ?_⟩; intro w' hSw; (try dsimp only at hSw); go_simp; with_reducible rfl)); exact hH)
      try simp only [Act.put, List.getElem_toArray, List.getElem_cons_succ, List.getElem_cons_zero, List.setIfInBounds_toArray, List.set_cons_zero, List.set_cons_succ]
      first | (refine wpAnyH_take (i := 3) (v := undef) rfl ?_ ?_ ?_ (fun _ _ _ h => h) ?_ ?_ ?_; kernel_rfl; kernel_rfl; kernel_rfl; exact Or.inr ⟨by rfl, rfl⟩; exact hH) | (refine wpAnyH_take (i := 3) (v := ?_) rfl ?_ ?_ ?_ (fun _ _ _ h => h) ?_ ?_ ?_; rotate_left; kernel_rfl; kernel_rfl; kernel_rfl; (focus (refine Or.inl ⟨by rfl, ?_⟩; intro w' hSw; (try dsimp only at hSw); go_simp)); exact hH) | (refine wpAnyH_take (i := 3) (v := ?_) rfl ?_ ?_ ?_ (fun _ _ _ h => h) ?_ ?_ ?_; rotate_left; kernel_rfl; kernel_rfl; kernel_rfl; (focus (refine Or.inl ⟨by rfl, ?_⟩; intro w' hSw; (try dsimp only at hSw); go_simp; with_reducible rfl)); exact hH)
      try simp only [Act.put, List.getElem_toArray, List.getElem_cons_succ, List.getElem_cons_zero, List.setIfInBounds_toArray, List.set_cons_zero, List.set_cons_succ]
      first | (refine wpAnyH_take (i := 4) (v := undef) rfl ?_ ?_ ?_ (fun _ _ _ h => h) ?_ ?_ ?_; kernel_rfl; kernel_rfl; kernel_rfl; exact Or.inr ⟨by rfl, rfl⟩; exact hH) | (refine wpAnyH_take (i := 4) (v := ?_) rfl ?_ ?_ ?_ (fun _ _ _ h => h) ?_ ?_ ?_; rotate_left; kernel_rfl; kernel_rfl; kernel_rfl; (focus (refine Or.inl ⟨by rfl, ?_⟩; intro w' hSw; (try dsimp only at hSw); go_simp)); exact hH) | (refine wpAnyH_take (i := 4) (v := ?_) rfl ?_ ?_ ?_ (fun _ _ _ h => h) ?_ ?_ ?_; rotate_left; kernel_rfl; kernel_rfl; kernel_rfl; (focus (refine Or.inl ⟨by rfl, ?_⟩; intro w' hSw; (try dsimp only at hSw); go_simp; with_reducible rfl)); exact hH)
      try simp only [Act.put, List.getElem_toArray, List.getElem_cons_succ, List.getElem_cons_zero, List.setIfInBounds_toArray, List.set_cons_zero, List.set_cons_succ]
      (refine wpAnyH_take (i := 5) (v := .bool true) rfl ?_ ?_ ?_ (fun _ _ _ h => h) ?_ ?_ ?_; kernel_rfl; kernel_rfl; kernel_rfl; exact yields_cmp rfl true 31 _ _ _ rfl _ _ rfl rfl true (by kernel_rfl) HKE.out; exact hH)
      try simp only [Act.put, List.getElem_toArray, List.getElem_cons_succ, List.getElem_cons_zero, List.setIfInBounds_toArray, List.set_cons_zero, List.set_cons_succ]
      refine wpAnyH_done (by kernel_rfl) ?_ _
      refine NoPanic.normal ?_
      have hbD := hH.2
      clear hH
      obtain ⟨wu, hwu⟩ : ∃ x : World, x = wt.drew := ⟨_, rfl⟩
      rw [← hwu] at hbD ⊢
      have HW := Lib.hid (HW3.out.next hbD)
      have HKY := Lib.hid (HKY3.out.next hbD)
      clear hbD hwu HW3 HKY3 KP HKE
      go_upto_region 13 with (fail)
      have HIC := Lib.hid (HIH.out r3 n1 wu.drew HL.out.2.2.2.2.2.2.2 HL.out.1 HL.out.2.2.2.2.2.2.1 (Rises.mid HL.out.2.2.2.1).2.2.2 HG.out.2 (HW.out.at.2.2.below (below_of_drew (Below.refl _ _))) HF.out.2.1 (HW.out.tre.below (below_of_drew (Below.refl _ _))) HF.out.2.2.2.2.1)
      have KQ : Hid (∀ w', Fr ((fun j => j ∈ r3.blocks)) wu w' → (w'.cell? ⟨w.heap.size, 0, none⟩ = some (.int .u64 k.1) ∧ w'.cell? ⟨w.heap.size, 1, none⟩ = some (.int .i64 k.2) ∧ w'.cell? ⟨b3, 7, none⟩ = some (.pointer (ptrO r3))) ∧ Fr ((fun j => j ∈ r3.blocks)) wu w') := fun w' hb => ⟨⟨(HKY.out.fr hb HF.out.2.2.2.2.2.1).get 0 rfl, (HKY.out.fr hb HF.out.2.2.2.2.2.1).get 1 rfl, (by rw [← ptrV_eq]; exact (HW.out.at.1.fr hb HF.out.1.2).get 7 rfl)⟩, hb⟩
      refine wp_region_noPanic ?_
      refine wp_region_Z [10] (fun w' => (w'.cell? ⟨w.heap.size, 0, none⟩ = some (.int .u64 k.1) ∧ w'.cell? ⟨w.heap.size, 1, none⟩ = some (.int .i64 k.2) ∧ w'.cell? ⟨b3, 7, none⟩ = some (.pointer (ptrO r3))) ∧ Fr ((fun j => j ∈ r3.blocks)) wu w') (by kernel_rfl) (KQ.out _ (Fr.drew ((Fr.refl (fun j => j ∈ r3.blocks) wu)))) (fun hH => ?_)
      have hbR := Fr.drew ((Fr.refl (fun j => j ∈ r3.blocks) wu))
      first | (refine wpAnyZ_take (i := 0) (v := undef) rfl ?_ ?_ ?_ ?_ (fun _ _ _ h => h) ?_ ?_ ?_; kernel_rfl; kernel_rfl; kernel_rfl; kernel_rfl; exact Or.inr ⟨by rfl, rfl⟩; exact hH) | (refine wpAnyZ_take (i := 0) (v := ?_) rfl ?_ ?_ ?_ ?_ (fun _ _ _ h => h) ?_ ?_ ?_; rotate_left; kernel_rfl; kernel_rfl; kernel_rfl; kernel_rfl; (focus (refine Or.inl ⟨by rfl, ?_⟩; intro w' hSw; (try dsimp only at hSw); go_simp)); exact hH) | (refine wpAnyZ_take (i := 0) (v := ?_) rfl ?_ ?_ ?_ ?_ (fun _ _ _ h => h) ?_ ?_ ?_; rotate_left; kernel_rfl; kernel_rfl; kernel_rfl; kernel_rfl; (focus (refine Or.inl ⟨by rfl, ?_⟩; intro w' hSw; (try dsimp only at hSw); go_simp; with_reducible rfl)); exact hH)
      try simp only [Act.put, List.getElem_toArray, List.getElem_cons_succ, List.getElem_cons_zero, List.setIfInBounds_toArray, List.set_cons_zero, List.set_cons_succ]
      first | (refine wpAnyZ_take (i := 1) (v := undef) rfl ?_ ?_ ?_ ?_ (fun _ _ _ h => h) ?_ ?_ ?_; kernel_rfl; kernel_rfl; kernel_rfl; kernel_rfl; exact Or.inr ⟨by rfl, rfl⟩; exact hH) | (refine wpAnyZ_take (i := 1) (v := ?_) rfl ?_ ?_ ?_ ?_ (fun _ _ _ h => h) ?_ ?_ ?_; rotate_left; kernel_rfl; kernel_rfl; kernel_rfl; kernel_rfl; (focus (refine Or.inl ⟨by rfl, ?_⟩; intro w' hSw; (try dsimp only at hSw); go_simp)); exact hH) | (refine wpAnyZ_take (i := 1) (v := ?_) rfl ?_ ?_ ?_ ?_ (fun _ _ _ h => h) ?_ ?_ ?_; rotate_left; kernel_rfl; kernel_rfl; kernel_rfl; kernel_rfl; (focus (refine Or.inl ⟨by rfl, ?_⟩; intro w' hSw; (try dsimp only at hSw); go_simp; with_reducible rfl)); exact hH)
      try simp only [Act.put, List.getElem_toArray, List.getElem_cons_succ, List.getElem_cons_zero, List.setIfInBounds_toArray, List.set_cons_zero, List.set_cons_succ]
      first | (refine wpAnyZ_take (i := 2) (v := undef) rfl ?_ ?_ ?_ ?_ (fun _ _ _ h => h) ?_ ?_ ?_; kernel_rfl; kernel_rfl; kernel_rfl; kernel_rfl; exact Or.inr ⟨by rfl, rfl⟩; exact hH) | (refine wpAnyZ_take (i := 2) (v := ?_) rfl ?_ ?_ ?_ ?_ (fun _ _ _ h => h) ?_ ?_ ?_; rotate_left; kernel_rfl; kernel_rfl; kernel_rfl; kernel_rfl; (focus (refine Or.inl ⟨by rfl, ?_⟩; intro w' hSw; (try dsimp only at hSw); go_simp)); exact hH) | (refine wpAnyZ_take (i := 2) (v := ?_) rfl ?_ ?_ ?_ ?_ (fun _ _ _ h => h) ?_ ?_ ?_; rotate_left; kernel_rfl; kernel_rfl; kernel_rfl; kernel_rfl; (focus (refine Or.inl ⟨by rfl, ?_⟩; intro w' hSw; (try dsimp only at hSw); go_simp; with_reducible rfl)); exact hH)
      try simp only [Act.put, List.getElem_toArray, List.getElem_cons_succ, List.getElem_cons_zero, List.setIfInBounds_toArray, List.set_cons_zero, List.set_cons_succ]
      first | (refine wpAnyZ_take (i := 3) (v := undef) rfl ?_ ?_ ?_ ?_ (fun _ _ _ h => h) ?_ ?_ ?_; kernel_rfl; kernel_rfl; kernel_rfl; kernel_rfl; exact Or.inr ⟨by rfl, rfl⟩; exact hH) | (refine wpAnyZ_take (i := 3) (v := ?_) rfl ?_ ?_ ?_ ?_ (fun _ _ _ h => h) ?_ ?_ ?_; rotate_left; kernel_rfl; kernel_rfl; kernel_rfl; kernel_rfl; (focus (refine Or.inl ⟨by rfl, ?_⟩; intro w' hSw; (try dsimp only at hSw); go_simp)); exact hH) | (refine wpAnyZ_take (i := 3) (v := ?_) rfl ?_ ?_ ?_ ?_ (fun _ _ _ h => h) ?_ ?_ ?_; rotate_left; kernel_rfl; kernel_rfl; kernel_rfl; kernel_rfl; (focus (refine Or.inl ⟨by rfl, ?_⟩; intro w' hSw; (try dsimp only at hSw); go_simp; with_reducible rfl)); exact hH)
      try simp only [Act.put, List.getElem_toArray, List.getElem_cons_succ, List.getElem_cons_zero, List.setIfInBounds_toArray, List.set_cons_zero, List.set_cons_succ]
      first | (refine wpAnyZ_take (i := 4) (v := undef) rfl ?_ ?_ ?_ ?_ (fun _ _ _ h => h) ?_ ?_ ?_; kernel_rfl; kernel_rfl; kernel_rfl; kernel_rfl; exact Or.inr ⟨by rfl, rfl⟩; exact hH) | (refine wpAnyZ_take (i := 4) (v := ?_) rfl ?_ ?_ ?_ ?_ (fun _ _ _ h => h) ?_ ?_ ?_; rotate_left; kernel_rfl; kernel_rfl; kernel_rfl; kernel_rfl; (focus (refine Or.inl ⟨by rfl, ?_⟩; intro w' hSw; (try dsimp only at hSw); go_simp)); exact hH) | (refine wpAnyZ_take (i := 4) (v := ?_) rfl ?_ ?_ ?_ ?_ (fun _ _ _ h => h) ?_ ?_ ?_; rotate_left; kernel_rfl; kernel_rfl; kernel_rfl; kernel_rfl; (focus (refine Or.inl ⟨by rfl, ?_⟩; intro w' hSw; (try dsimp only at hSw); go_simp; with_reducible rfl)); exact hH)
      try simp only [Act.put, List.getElem_toArray, List.getElem_cons_succ, List.getElem_cons_zero, List.setIfInBounds_toArray, List.set_cons_zero, List.set_cons_succ]
      first | (refine wpAnyZ_take (i := 5) (v := undef) rfl ?_ ?_ ?_ ?_ (fun _ _ _ h => h) ?_ ?_ ?_; kernel_rfl; kernel_rfl; kernel_rfl; kernel_rfl; exact Or.inr ⟨by rfl, rfl⟩; exact hH) | (refine wpAnyZ_take (i := 5) (v := ?_) rfl ?_ ?_ ?_ ?_ (fun _ _ _ h => h) ?_ ?_ ?_; rotate_left; kernel_rfl; kernel_rfl; kernel_rfl; kernel_rfl; (focus (refine Or.inl ⟨by rfl, ?_⟩; intro w' hSw; (try dsimp only at hSw); go_simp)); exact hH) | (refine wpAnyZ_take (i := 5) (v := ?_) rfl ?_ ?_ ?_ ?_ (fun _ _ _ h => h) ?_ ?_ ?_; rotate_left; kernel_rfl; kernel_rfl; kernel_rfl; kernel_rfl; (focus (refine Or.inl ⟨by rfl, ?_⟩; intro w' hSw; (try dsimp only at hSw); go_simp; with_reducible rfl)); exact hH)
      try simp only [Act.put, List.getElem_toArray, List.getElem_cons_succ, List.getElem_cons_zero, List.setIfInBounds_toArray, List.set_cons_zero, List.set_cons_succ]
      first | (refine wpAnyZ_take (i := 6) (v := undef) rfl ?_ ?_ ?_ ?_ (fun _ _ _ h => h) ?_ ?_ ?_; kernel_rfl; kernel_rfl; kernel_rfl; kernel_rfl; exact Or.inr ⟨by rfl, rfl⟩; exact hH) | (refine wpAnyZ_take (i := 6) (v := ?_) rfl ?_ ?_ ?_ ?_ (fun _ _ _ h => h) ?_ ?_ ?_; rotate_left; kernel_rfl; kernel_rfl; kernel_rfl; kernel_rfl; (focus (refine Or.inl ⟨by rfl, ?_⟩; intro w' hSw; (try dsimp only at hSw); go_simp)); exact hH) | (refine wpAnyZ_take (i := 6) (v := ?_) rfl ?_ ?_ ?_ ?_ (fun _ _ _ h => h) ?_ ?_ ?_; rotate_left; kernel_rfl; kernel_rfl; kernel_rfl; kernel_rfl; (focus (refine Or.inl ⟨by rfl, ?_⟩; intro w' hSw; (try dsimp only at hSw); go_simp; with_reducible rfl)); exact hH)
      try simp only [Act.put, List.getElem_toArray, List.getElem_cons_succ, List.getElem_cons_zero, List.setIfInBounds_toArray, List.set_cons_zero, List.set_cons_succ]
      refine wpAnyZ_ready (rs := [7]) (by kernel_rfl) (by simp) ?_
      refine (AllReadyZ.cons rfl (fun K hK => ?_) AllReadyZ.nil)
      go_simp
      with_reducible refine HIC.out.mono ?_
      rintro e w1 ⟨t2, d, rfl, hd, hi⟩
      have fr1 : Fr (fun j => j ∈ r3.blocks) wu w1 := hH.2.trans hd.fr
      have bk1 := HW.out.at.1.fr fr1 HF.out.1.2
      have HD := Lib.hid (And.intro hd (And.intro hi (And.intro fr1 bk1)))
      have ff1 := bk1.frozen 7
      have cc1 : w1.cell? ⟨b3, 7, none⟩ = some (.pointer (ptrO r3)) := by rw [← ptrV_eq]; exact bk1.get 7 rfl
      clear hd hi bk1
      try go_wp2_with fail
      have hH1 := KQ.out _ fr1
      refine hK.out _ _ (fun _ => hH1) ?_
      clear hK K hH
      have hH := hH1
      clear hH1
      try simp only [Act.put, List.getElem_toArray, List.getElem_cons_succ, List.getElem_cons_zero, List.setIfInBounds_toArray, List.set_cons_zero, List.set_cons_succ]
      refine wpAnyZ_ready (rs := [8]) (by kernel_rfl) (by simp) ?_
      refine (AllReadyZ.cons rfl (fun K hK => ?_) AllReadyZ.nil)
      go_simp
      refine hK.out _ _ (fun _ => hH) ?_
      clear hK K
      try simp only [Act.put, List.getElem_toArray, List.getElem_cons_succ, List.getElem_cons_zero, List.setIfInBounds_toArray, List.set_cons_zero, List.set_cons_succ]
      first | (refine wpAnyZ_take (i := 9) (v := undef) rfl ?_ ?_ ?_ ?_ (fun _ _ _ h => h) ?_ ?_ ?_; kernel_rfl; kernel_rfl; kernel_rfl; kernel_rfl; exact Or.inr ⟨by rfl, rfl⟩; exact hH) | (refine wpAnyZ_take (i := 9) (v := ?_) rfl ?_ ?_ ?_ ?_ (fun _ _ _ h => h) ?_ ?_ ?_; rotate_left; kernel_rfl; kernel_rfl; kernel_rfl; kernel_rfl; (focus (refine Or.inl ⟨by rfl, ?_⟩; intro w' hSw; (try dsimp only at hSw); go_simp)); exact hH) | (refine wpAnyZ_take (i := 9) (v := ?_) rfl ?_ ?_ ?_ ?_ (fun _ _ _ h => h) ?_ ?_ ?_; rotate_left; kernel_rfl; kernel_rfl; kernel_rfl; kernel_rfl; (focus (refine Or.inl ⟨by rfl, ?_⟩; intro w' hSw; (try dsimp only at hSw); go_simp; with_reducible rfl)); exact hH)
      try simp only [Act.put, List.getElem_toArray, List.getElem_cons_succ, List.getElem_cons_zero, List.setIfInBounds_toArray, List.set_cons_zero, List.set_cons_succ]
      refine wpAnyZ_ready (rs := [10]) (by kernel_rfl) (by simp) ?_
      refine (AllReadyZ.cons rfl (fun K hK => ?_) AllReadyZ.nil)
      go_simp
      refine hK.out _ _ (fun h => absurd (by simp) h) ?_
      clear hK K
      try simp only [Act.put, List.getElem_toArray, List.getElem_cons_succ, List.getElem_cons_zero, List.setIfInBounds_toArray, List.set_cons_zero, List.set_cons_succ]
      refine wpAnyZ_done (by kernel_rfl) ?_ _
      refine NoPanic.normal ?_
      skip
      clear ff1 cc1 fr1 KQ
      have F3 : Fr (fun j => j = b3) w1 (w1.setCell ⟨b3, 7, none⟩ (.pointer (ptrO t2))) := (Fr.refl (fun j => j = b3) w1).setCell (p := ⟨b3, 7, none⟩) (fun _ => rfl) _
      have hp3 : List.Perm (RB.blocks (.node b3 c3 l3 k3 v3 s3 r3)) (d :: (RB.node b3 c3 l3 k3 v3 s3 t2).blocks) := RB.blocks_right2 HD.out.1.perm
      have hnd3 := (hp3.nodup_iff.1 HW.out.nodup)
      have hT3 : T ∉ (RB.node b3 c3 l3 k3 v3 s3 t2).blocks := fun hx => HW.out.notin (hp3.mem_iff.2 (List.mem_cons_of_mem _ hx))
      have hnd4 := (List.nodup_cons.1 hnd3).2
      have hbt : b3 ∉ t2.blocks := fun hx => HF.out.1.2 (HD.out.1.perm.mem_iff.2 (List.mem_cons_of_mem _ hx))
      have hR3 : RepH (w1.setCell ⟨b3, 7, none⟩ (.pointer (ptrO t2))) (.node b3 c3 l3 k3 v3 s3 t2) := by
        have h1 := HD.out.2.2.2.put 7 (.pointer (ptrO t2))
        have h2 := RepH.fr F3 HD.out.1.rep (fun x hx e => hbt (e ▸ hx))
        have h3 := RepH.fr F3 (RepH.fr HD.out.2.2.1 HW.out.at.2.1 (fun x hx hx2 => HF.out.2.2.1 x hx hx2)) (fun x hx e => HF.out.1.1 (e ▸ hx))
        refine ⟨?_, h3, h2⟩
        rw [ptrV_eq t2]
        exact h1
      have hTr := HD.out.1.tre.fr F3 HF.out.2.2.2.1
      have HQ := Lib.hid (And.intro hR3 (And.intro hnd4 (And.intro hTr (And.intro hT3 (And.intro F3 hp3)))))
      clear F3 hp3 hnd3 hT3 hnd4 hbt hR3 hTr
      obtain ⟨wp, hwp⟩ : ∃ x : World, x = w1 := ⟨_, rfl⟩
      rw [← hwp] at HQ HD ⊢
      clear hwp
      generalize wp.setCell ⟨b3, 7, none⟩ (.pointer (ptrO t2)) = w3 at HQ ⊢
      go_wp2_with fail
      with_reducible refine (rh_balance T b3 c3 l3 k3 v3 s3 t2 w3 HQ.out.1 HQ.out.2.1 HQ.out.2.2.1 HQ.out.2.2.2.1).mono ?_
      rintro e w4 ⟨rfl, hS⟩
      have HS4 := Lib.hid hS
      clear hS
      go_wp2_with fail
      go_ret
      obtain ⟨hd, hi, hfr, -⟩ := HD.out
      obtain ⟨_, _, _, _, F3, hp3⟩ := HQ.out
      have hS := HS4.out
      refine ⟨RB.bal ofH minH (.node b3 c3 l3 k3 v3 s3 t2), d, by rw [ptrV_eq]; rfl, ⟨HL.out.2.1 t2 k3 v3 hd.post, hS.rep, ?_, ?_, hS.tre⟩, ?_⟩
      · rw [HB.out]
        refine HW.out.fr.trans ((hfr.mono fun j _ hj => ?_).trans ((F3.mono fun j _ hj => ?_).trans (hS.fr.mono fun j _ hj => ?_)))
        · exact HW.out.perm.mem_iff.1 (List.mem_cons_of_mem _ (List.mem_append.2 (Or.inr hj)))
        · exact HW.out.perm.mem_iff.1 (by rw [hj]; exact List.mem_cons_self ..)
        · exact HW.out.perm.mem_iff.1 (hp3.mem_iff.2 (List.mem_cons_of_mem _ hj))
      · rw [HB.out]
        exact HW.out.perm.symm.trans (hp3.trans (hS.perm.symm.cons d))
      · rw [← HL.out.2.2.1, RB.items_bal]
        simp only [RB.items]
        rw [hi]
        exact (del_right (p := (k3, v3)) HL.out.2.2.2.1 HG.out.1).symm
    | true =>
      have heq : k3 = k := of_decide_eq_true HBQ.out
      have HEQ := Lib.hid heq
      clear heq
      refine wp_region_noPanic ?_
      refine wp_region_held_drew (S := fun w' => (w'.cell? ⟨w.heap.size, 0, none⟩ = some (.int .u64 k.1) ∧ w'.cell? ⟨w.heap.size, 1, none⟩ = some (.int .i64 k.2) ∧ w'.cell? ⟨b3, 0, none⟩ = some (.int .u64 k3.1) ∧ w'.cell? ⟨b3, 1, none⟩ = some (.int .i64 k3.2)) ∧ Below (wt.heap.size) wt w') (by kernel_rfl) (KP.out _ (below_of_drew ((Below.refl wt.heap.size wt)))) (fun hH => ?_)
      first | (refine wpAnyH_take (i := 0) (v := undef) rfl ?_ ?_ ?_ (fun _ _ _ h => h) ?_ ?_ ?_; kernel_rfl; kernel_rfl; kernel_rfl; exact Or.inr ⟨by rfl, rfl⟩; exact hH) | (refine wpAnyH_take (i := 0) (v := ?_) rfl ?_ ?_ ?_ (fun _ _ _ h => h) ?_ ?_ ?_; rotate_left; kernel_rfl; kernel_rfl; kernel_rfl; (focus (refine Or.inl ⟨by rfl, ?_⟩; intro w' hSw; (try dsimp only at hSw); go_simp)); exact hH) | (refine wpAnyH_take (i := 0) (v := ?_) rfl ?_ ?_ ?_ (fun _ _ _ h => h) ?_ ?_ ?_; rotate_left; kernel_rfl; kernel_rfl; kernel_rfl; (focus (refine Or.inl ⟨by rfl, ?_⟩; intro w' hSw; (try dsimp only at hSw); go_simp; with_reducible rfl)); exact hH)
      try simp only [Act.put, List.getElem_toArray, List.getElem_cons_succ, List.getElem_cons_zero, List.setIfInBounds_toArray, List.set_cons_zero, List.set_cons_succ]
      first | (refine wpAnyH_take (i := 1) (v := undef) rfl ?_ ?_ ?_ (fun _ _ _ h => h) ?_ ?_ ?_; kernel_rfl; kernel_rfl; kernel_rfl; exact Or.inr ⟨by rfl, rfl⟩; exact hH) | (refine wpAnyH_take (i := 1) (v := ?_) rfl ?_ ?_ ?_ (fun _ _ _ h => h) ?_ ?_ ?_; rotate_left; kernel_rfl; kernel_rfl; kernel_rfl; (focus (refine Or.inl ⟨by rfl, ?_⟩; intro w' hSw; (try dsimp only at hSw); go_simp)); exact hH) | (refine wpAnyH_take (i := 1) (v := ?_) rfl ?_ ?_ ?_ (fun _ _ _ h => h) ?_ ?_ ?_; rotate_left; kernel_rfl; kernel_rfl; kernel_rfl; (focus (refine Or.inl ⟨by rfl, ?_⟩; intro w' hSw; (try dsimp only at hSw); go_simp; with_reducible rfl)); exact hH)
      try simp only [Act.put, List.getElem_toArray, List.getElem_cons_succ, List.getElem_cons_zero, List.setIfInBounds_toArray, List.set_cons_zero, List.set_cons_succ]
      first | (refine wpAnyH_take (i := 2) (v := undef) rfl ?_ ?_ ?_ (fun _ _ _ h => h) ?_ ?_ ?_; kernel_rfl; kernel_rfl; kernel_rfl; exact Or.inr ⟨by rfl, rfl⟩; exact hH) | (refine wpAnyH_take (i := 2) (v := ?_) rfl ?_ ?_ ?_ (fun _ _ _ h => h) ?_ ?_ ?_; rotate_left; kernel_rfl; kernel_rfl; kernel_rfl; (focus (refine Or.inl ⟨by rfl, ?_⟩; intro w' hSw; (try dsimp only at hSw); go_simp)); exact hH) | (refine wpAnyH_take (i := 2) (v := ?_) rfl ?_ ?_ ?_ (fun _ _ _ h => h) ?_ ?_ ?_; rotate_left; kernel_rfl; kernel_rfl; kernel_rfl; (focus (refine Or.inl ⟨by rfl, ?_⟩; intro w' hSw; (try dsimp only at hSw); go_simp; with_reducible rfl)); exact hH)
      try simp only [Act.put, List.getElem_toArray, List.getElem_cons_succ, List.getElem_cons_zero, List.setIfInBounds_toArray, List.set_cons_zero, List.set_cons_succ]
      first | (refine wpAnyH_take (i := 3) (v := undef) rfl ?_ ?_ ?_ (fun _ _ _ h => h) ?_ ?_ ?_; kernel_rfl; kernel_rfl; kernel_rfl; exact Or.inr ⟨by rfl, rfl⟩; exact hH) | (refine wpAnyH_take (i := 3) (v := ?_) rfl ?_ ?_ ?_ (fun _ _ _ h => h) ?_ ?_ ?_; rotate_left; kernel_rfl; kernel_rfl; kernel_rfl; (focus (refine Or.inl ⟨by rfl, ?_⟩; intro w' hSw; (try dsimp only at hSw); go_simp)); exact hH) | (refine wpAnyH_take (i := 3) (v := ?_) rfl ?_ ?_ ?_ (fun _ _ _ h => h) ?_ ?_ ?_; rotate_left; kernel_rfl; kernel_rfl; kernel_rfl; (focus (refine Or.inl ⟨by rfl, ?_⟩; intro w' hSw; (try dsimp only at hSw); go_simp; with_reducible rfl)); exact hH)
      try simp only [Act.put, List.getElem_toArray, List.getElem_cons_succ, List.getElem_cons_zero, List.setIfInBounds_toArray, List.set_cons_zero, List.set_cons_succ]
      first | (refine wpAnyH_take (i := 4) (v := undef) rfl ?_ ?_ ?_ (fun _ _ _ h => h) ?_ ?_ ?_; kernel_rfl; kernel_rfl; kernel_rfl; exact Or.inr ⟨by rfl, rfl⟩; exact hH) | (refine wpAnyH_take (i := 4) (v := ?_) rfl ?_ ?_ ?_ (fun _ _ _ h => h) ?_ ?_ ?_; rotate_left; kernel_rfl; kernel_rfl; kernel_rfl; (focus (refine Or.inl ⟨by rfl, ?_⟩; intro w' hSw; (try dsimp only at hSw); go_simp)); exact hH) | (refine wpAnyH_take (i := 4) (v := ?_) rfl ?_ ?_ ?_ (fun _ _ _ h => h) ?_ ?_ ?_; rotate_left; kernel_rfl; kernel_rfl; kernel_rfl; (focus (refine Or.inl ⟨by rfl, ?_⟩; intro w' hSw; (try dsimp only at hSw); go_simp; with_reducible rfl)); exact hH)
      try simp only [Act.put, List.getElem_toArray, List.getElem_cons_succ, List.getElem_cons_zero, List.setIfInBounds_toArray, List.set_cons_zero, List.set_cons_succ]
      (refine wpAnyH_take (i := 5) (v := .bool false) rfl ?_ ?_ ?_ (fun _ _ _ h => h) ?_ ?_ ?_; kernel_rfl; kernel_rfl; kernel_rfl; exact yields_cmp rfl true 31 _ _ _ rfl _ _ rfl rfl false (by kernel_rfl) HKE.out; exact hH)
      try simp only [Act.put, List.getElem_toArray, List.getElem_cons_succ, List.getElem_cons_zero, List.setIfInBounds_toArray, List.set_cons_zero, List.set_cons_succ]
      refine wpAnyH_done (by kernel_rfl) ?_ _
      refine NoPanic.normal ?_
      have hbD := hH.2
      clear hH
      obtain ⟨wu, hwu⟩ : ∃ x : World, x = wt.drew := ⟨_, rfl⟩
      rw [← hwu] at hbD ⊢
      have HW := Lib.hid (HW3.out.next hbD)
      clear hbD hwu HW3 HKY3 KP HKE
      have hpl : ∃ b4 c4 l4 k4 v4 s4 r4, r3 = .node b4 c4 l4 k4 v4 s4 r4 ∧ RB.DropPreL ofH minH n1 r3 := by
        obtain ⟨b4, c4, l4, k4, v4, s4, r4, m4, e, _⟩ := HL.out.1
        refine ⟨b4, c4, l4, k4, v4, s4, r4, e, HL.out.1, ?_⟩
        have h1 := (Rises.mid HL.out.2.2.2.1).2.1 (k4, v4) (by rw [e]; simp [RB.items])
        have h2 : klt k k4 = true := by rw [← HEQ.out]; exact h1
        rw [e]
        exact HL.out.2.2.2.2.2.2.1 b4 c4 l4 k4 v4 s4 r4 e h2
      obtain ⟨b4, c4, l4, k4, v4, s4, r4, hr3, hpl⟩ := hpl
      have HPL := Lib.hid (And.intro hpl hr3)
      have x0 : wu.cell? ⟨b3, 7, none⟩ = some (.pointer (ptrO r3)) := by rw [← ptrV_eq]; exact HW.out.at.1.get 7 rfl
      clear hpl hr3
      go_wp2_with fail
      clear x0
      go_loopg [7] r3.size (fun gk pv wr => ∃ u : RB (Int × Int), u.size = gk ∧ u ≠ .nil ∧ pv = .pointer (ptrO u) ∧ wu = wr ∧ RepH wu u ∧ (∀ x ∈ u.blocks, x ∈ r3.blocks) ∧ u.items.head? = r3.items.head?)
      case atStart => exact ⟨r3, rfl, (by rw [HPL.out.2]; intro e; cases e), rfl, rfl, HW.out.at.2.2, fun x h => h, rfl⟩
      case round =>
        obtain ⟨u, hsz, hne, hpv, rfl, hu, hub, huh⟩ := hrel
        cases u with
        | nil => exact absurd rfl hne
        | node b5 c5 l5 k5 v5 s5 r5 =>
          have hu2 : Blk wu b5 138 #[.int .u64 k5.1, .int .i64 k5.2, .int .u64 v5, .int .u64 s5.1, .int .i64 s5.2, .bool c5, ptrV l5, ptrV r5] ∧ RepH wu l5 ∧ RepH wu r5 := hu
          have HU := Lib.hid (And.intro hu2 (And.intro hub huh))
          rw [node_ptr] at hpv
          subst hpv
          clear hu hu2 hub huh hne
          cases l5 with
          | node b6 c6 l6 k6 v6 s6 r6 =>
            have x1 : wu.cell? ⟨b5, 6, none⟩ = some (.pointer (some ⟨b6, 0, none⟩)) := HU.out.1.1.get 6 rfl
            go_wp2_with fail
            go_roundg (RB.size (.node b6 c6 l6 k6 v6 s6 r6))
            case rel => exact ⟨.node b6 c6 l6 k6 v6 s6 r6, rfl, (by intro e; cases e), rfl, rfl, HU.out.1.2.1, fun x hx => HU.out.2.1 x (List.mem_cons_of_mem _ (List.mem_append.2 (Or.inl hx))), by rw [← HU.out.2.2]; simp only [RB.items, List.head?_append]; cases l6.items.head? <;> rfl⟩
            case measure => simp only [RB.size] at hsz ⊢; omega
          | nil =>
            have x1 : wu.cell? ⟨b5, 6, none⟩ = some (.pointer none) := HU.out.1.1.get 6 rfl
            have HHD : Hid (r3.items.head? = some (k5, v5)) := HU.out.2.2.symm
            have hb5 : b5 ≠ b3 := fun e => HF.out.1.2 (e ▸ HU.out.2.1 b5 (List.mem_cons_self ..))
            have y0 : wu.cell? ⟨b5, 0, none⟩ = some (.int .u64 k5.1) := HU.out.1.1.get 0 rfl
            have y1 : wu.cell? ⟨b5, 1, none⟩ = some (.int .i64 k5.2) := HU.out.1.1.get 1 rfl
            have y2 : wu.cell? ⟨b5, 2, none⟩ = some (.int .u64 v5) := HU.out.1.1.get 2 rfl
            have z0 : wu.cell? ⟨b3, 0, none⟩ = some (.int .u64 k3.1) := HW.out.at.1.get 0 rfl
            have z1 : wu.cell? ⟨b3, 1, none⟩ = some (.int .i64 k3.2) := HW.out.at.1.get 1 rfl
            have z2 : wu.cell? ⟨b3, 2, none⟩ = some (.int .u64 v3) := HW.out.at.1.get 2 rfl
            have f0 := HW.out.at.1.frozen 0
            have f1 := HW.out.at.1.frozen 1
            have f2 := HW.out.at.1.frozen 2
            go_upto_region 18 with (fail)
            clear x1
            go_region
            have F2 : Fr (fun j => j = b3) wu (((wu.setCell ⟨b3, 0, none⟩ (.int .u64 k5.1)).setCell ⟨b3, 1, none⟩ (.int .i64 k5.2)).setCell ⟨b3, 2, none⟩ (.int .u64 v5)).drew := ((((Fr.refl (fun j => j = b3) wu).setCell (p := ⟨b3, 0, none⟩) (fun _ => rfl) _).setCell (p := ⟨b3, 1, none⟩) (fun _ => rfl) _).setCell (p := ⟨b3, 2, none⟩) (fun _ => rfl) _).drew
            have B2 : Blk (((wu.setCell ⟨b3, 0, none⟩ (.int .u64 k5.1)).setCell ⟨b3, 1, none⟩ (.int .i64 k5.2)).setCell ⟨b3, 2, none⟩ (.int .u64 v5)).drew b3 138 #[.int .u64 k5.1, .int .i64 k5.2, .int .u64 v5, .int .u64 s3.1, .int .i64 s3.2, .bool c3, ptrV l3, ptrV r3] := ((HW.out.at.1.put 0 _).put 1 _).put 2 _
            have HV := Lib.hid (And.intro F2 (And.intro B2 (And.intro (RepH.fr F2 HW.out.at.2.1 (fun x hx e => HF.out.1.1 (e ▸ hx))) (And.intro (RepH.fr F2 HW.out.at.2.2 (fun x hx e => HF.out.1.2 (e ▸ hx))) (HW.out.tre.fr F2 HF.out.2.2.2.1)))))
            clear F2 B2 y0 y1 y2 z0 z1 z2 f0 f1 f2
            generalize (((wu.setCell ⟨b3, 0, none⟩ (.int .u64 k5.1)).setCell ⟨b3, 1, none⟩ (.int .i64 k5.2)).setCell ⟨b3, 2, none⟩ (.int .u64 v5)).drew = wv at HV ⊢
            have x0 : wv.cell? ⟨b3, 7, none⟩ = some (.pointer (ptrO r3)) := by rw [← ptrV_eq]; exact HV.out.2.1.get 7 rfl
            go_wp2_with fail
            with_reducible refine (rh_dropFirst T N r3 n1 wv HL.out.2.2.2.2.2.2.2 HPL.out.1 HV.out.2.2.2.1 HF.out.2.1 HV.out.2.2.2.2 HF.out.2.2.2.2.1).mono ?_
            rintro e w2 ⟨t2, d, kf, vf, rfl, hd, hi⟩
            have hkf : kf = k5 ∧ vf = v5 := by
              have h := HHD.out
              rw [hi] at h
              have h : some (kf, vf) = some (k5, v5) := h
              injection h with h
              injection h with h1 h2
              exact ⟨h1, h2⟩
            obtain ⟨rfl, rfl⟩ := hkf
            have hbk := HV.out.2.1.fr hd.fr HF.out.1.2
            have HD := Lib.hid (And.intro hd (And.intro hi hbk))
            have y1 : w2.cell? ⟨b3, 7, none⟩ = some (.pointer (ptrO r3)) := by rw [← ptrV_eq]; exact hbk.get 7 rfl
            have g1 := hbk.frozen 7
            clear hd hi hbk x0
            go_upto_region 20 with (fail)
            have F3 : Fr (fun j => j = b3) w2 (w2.setCell ⟨b3, 7, none⟩ (.pointer (ptrO t2))) := (Fr.refl (fun j => j = b3) w2).setCell (p := ⟨b3, 7, none⟩) (fun _ => rfl) _
            have hp3 : List.Perm (RB.blocks (.node b3 c3 l3 k3 v3 s3 r3)) (d :: (RB.node b3 c3 l3 kf vf s3 t2).blocks) := RB.blocks_right2 HD.out.1.perm
            have hnd3 := (hp3.nodup_iff.1 HW.out.nodup)
            have hT3 : T ∉ (RB.node b3 c3 l3 kf vf s3 t2).blocks := fun hx => HW.out.notin (hp3.mem_iff.2 (List.mem_cons_of_mem _ hx))
            have hnd4 := (List.nodup_cons.1 hnd3).2
            have hbt : b3 ∉ t2.blocks := fun hx => HF.out.1.2 (HD.out.1.perm.mem_iff.2 (List.mem_cons_of_mem _ hx))
            have hR3 : RepH (w2.setCell ⟨b3, 7, none⟩ (.pointer (ptrO t2))) (.node b3 c3 l3 kf vf s3 t2) := by
              have h1 := HD.out.2.2.put 7 (.pointer (ptrO t2))
              have h2 := RepH.fr F3 HD.out.1.rep (fun x hx e => hbt (e ▸ hx))
              have h3 := RepH.fr F3 (RepH.fr HD.out.1.fr HV.out.2.2.1 (fun x hx hx2 => HF.out.2.2.1 x hx hx2)) (fun x hx e => HF.out.1.1 (e ▸ hx))
              refine ⟨?_, h3, h2⟩
              rw [ptrV_eq t2]
              exact h1
            have hTr := HD.out.1.tre.fr F3 HF.out.2.2.2.1
            have HQ := Lib.hid (And.intro hR3 (And.intro hnd4 (And.intro hTr (And.intro hT3 (And.intro F3 hp3)))))
            clear F3 hp3 hnd3 hT3 hnd4 hbt hR3 hTr y1 g1
            generalize w2.setCell ⟨b3, 7, none⟩ (.pointer (ptrO t2)) = w3 at HQ ⊢
            go_wp2_with fail
            with_reducible refine (rh_balance T b3 c3 l3 kf vf s3 t2 w3 HQ.out.1 HQ.out.2.1 HQ.out.2.2.1 HQ.out.2.2.2.1).mono ?_
            rintro e w4 ⟨rfl, hS⟩
            have HS4 := Lib.hid hS
            clear hS
            go_wp2_with fail
            go_ret
            obtain ⟨hd, hi, -⟩ := HD.out
            obtain ⟨_, _, _, _, F3, hp3⟩ := HQ.out
            have hS := HS4.out
            refine ⟨RB.bal ofH minH (.node b3 c3 l3 kf vf s3 t2), d, by rw [ptrV_eq]; rfl, ⟨HL.out.2.1 t2 kf vf hd.post, hS.rep, ?_, ?_, hS.tre⟩, ?_⟩
            · rw [HB.out]
              refine HW.out.fr.trans ((HV.out.1.mono fun j _ hj => ?_).trans ((hd.fr.mono fun j _ hj => ?_).trans ((F3.mono fun j _ hj => ?_).trans (hS.fr.mono fun j _ hj => ?_))))
              · exact HW.out.perm.mem_iff.1 (by rw [hj]; exact List.mem_cons_self ..)
              · exact HW.out.perm.mem_iff.1 (List.mem_cons_of_mem _ (List.mem_append.2 (Or.inr hj)))
              · exact HW.out.perm.mem_iff.1 (by rw [hj]; exact List.mem_cons_self ..)
              · exact HW.out.perm.mem_iff.1 (hp3.mem_iff.2 (List.mem_cons_of_mem _ hj))
            · rw [HB.out]
              exact HW.out.perm.symm.trans (hp3.trans (hS.perm.symm.cons d))
            · rw [← HL.out.2.2.1, RB.items_bal]
              simp only [RB.items]
              have hR3 := HL.out.2.2.2.1
              rw [HEQ.out] at hR3 ⊢
              rw [del_here hR3, hi]

end Go.Proofs.Ytjlnbpomncglcaa
