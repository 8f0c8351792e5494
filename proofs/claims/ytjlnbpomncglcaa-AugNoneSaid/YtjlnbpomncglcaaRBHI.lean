/-
  Red-black trees in memory (h): a value dropped, to the left.
-/
import Derived.Test.YtjlnbpomncglcaaProg
import Derived.Test.YtjlnbpomncglcaaRBHH
namespace Go.Proofs.Ytjlnbpomncglcaa
set_option linter.unusedVariables false
set_option linter.unusedSimpArgs false
set_option maxRecDepth 100000
open Go.RowKit

def DDropH (w : World) (T n : Nat) (k : RK) (t : RB (Int × Int)) (e : Ending) (w' : World) : Prop := ∃ (t' : RB (Int × Int)) (d : Nat), e = .returned (.pointer (ptrO t')) ∧ DropH w w' T n t t' d ∧ t'.items = del k t.items
def DropIHH (T N : Nat) (k : RK) : Prop := ∀ (t : RB (Int × Int)) (n : Nat) (w : World), t.size ≤ N → RB.DropPre ofH minH n t → (∀ b c l kk vv s r, t = .node b c l kk vv s r → klt k kk = true → r.red = false) → Rises t.items → (∃ v, get k t.items = some v) → RepH w t → t.blocks.Nodup → TreH w T → T ∉ t.blocks →
    Calls Try.prog 110 #[.pointer (some ⟨T, 0, none⟩), .pointer (ptrO t), .agg #[.int .u64 k.1, .int .i64 k.2]] w fun e w' => DDropH w T n k t e w'
set_option maxHeartbeats 16000000 in
theorem rh_drop_l (T N : Nat) (k : RK) (ih : DropIHH T N k) (b : Nat) (c : Bool) (l : RB (Int × Int)) (kk : RK) (vv : Int) (s : (Int × Int)) (r : RB (Int × Int)) (n : Nat) (w : World) (hN : RB.size (.node b c l kk vv s r) ≤ N + 1) (hp : RB.DropPreL ofH minH n (.node b c l kk vv s r)) (hR : Rises (RB.items (.node b c l kk vv s r))) (hg : ∃ v, get k (RB.items (.node b c l kk vv s r)) = some v) (hk : klt k kk = true)
    (h : RepH w (.node b c l kk vv s r)) (hn : (RB.blocks (.node b c l kk vv s r)).Nodup) (hT : TreH w T) (hTn : T ∉ RB.blocks (.node b c l kk vv s r)) :
    Calls Try.prog 110 #[.pointer (some ⟨T, 0, none⟩), .pointer (ptrO (.node b c l kk vv s r)), .agg #[.int .u64 k.1, .int .i64 k.2]] w fun e w' => DDropH w T n k (.node b c l kk vv s r) e w' := by
  cases l with
  | nil =>
    obtain ⟨v, hv⟩ := hg
    have := get_l (A := []) (p := (kk, vv)) (B := r.items) hR hv hk
    cases this
  | node b1 c1 l1 k1 v1 s1 r1 =>
    unfold DropIHH at ih
    have HIH := Lib.hid ih
    have HSZ := Lib.hid hN
    have HK := Lib.hid hk
    have HRG := Lib.hid (And.intro hR hg)
    have HH := Lib.hid (And.intro h (And.intro hn (And.intro hT hTn)))
    have HSTEP := Lib.hid (RB.left_step hp (show RB.left (.node b c (.node b1 c1 l1 k1 v1 s1 r1) kk vv s r) ≠ .nil from by intro e; cases e))
    have HRN := Lib.hid (fun hc => RB.goL_right hp (show RB.left (.node b c (.node b1 c1 l1 k1 v1 s1 r1) kk vv s r) ≠ .nil from by intro e; cases e) hc)
    have HIT : Hid ((RB.goL ofH minH (.node b c (.node b1 c1 l1 k1 v1 s1 r1) kk vv s r)).items = RB.items (.node b c (.node b1 c1 l1 k1 v1 s1 r1) kk vv s r)) := RB.items_goL _
    clear ih hN hk hR hg h hn hT hTn hp
    obtain ⟨B, hB⟩ : ∃ B, RB.blocks (.node b c (.node b1 c1 l1 k1 v1 s1 r1) kk vv s r) = B := ⟨_, rfl⟩
    have HB := Lib.hid hB
    clear hB
    rw [node_ptr]
    go_enter Try.func110, Try.ntmps110
    go_upto_region 1 with (fail)
    have hb0 : Below w.heap.size w (w.alloc (.cells #[.int .u64 k.1, .int .i64 k.2] 31)) := by go_grown
    have kb := Blk.new w 31 #[.int .u64 k.1, .int .i64 k.2]
    generalize w.alloc (.cells #[.int .u64 k.1, .int .i64 k.2] 31) = wa at hb0 kb ⊢
    have HBB := Lib.hid (And.intro hb0 kb)
    clear hb0 kb
    have HSa := Lib.hid (StH.next (StH.new HH.out.1 HH.out.2.1 HH.out.2.2.1 HH.out.2.2.2) HBB.out.1)
    have KP : Hid (∀ w', Below (wa.heap.size) wa w' → (w'.cell? ⟨w.heap.size, 0, none⟩ = some (.int .u64 k.1) ∧ w'.cell? ⟨w.heap.size, 1, none⟩ = some (.int .i64 k.2) ∧ w'.cell? ⟨b, 0, none⟩ = some (.int .u64 kk.1) ∧ w'.cell? ⟨b, 1, none⟩ = some (.int .i64 kk.2)) ∧ Below (wa.heap.size) wa w') := fun w' hb => ⟨⟨(HBB.out.2.next hb).get 0 rfl, (HBB.out.2.next hb).get 1 rfl, (HSa.out.at.1.next hb).get 0 rfl, (HSa.out.at.1.next hb).get 1 rfl⟩, hb⟩
    refine wp_region_noPanic ?_
    refine wp_region_held_drew (S := fun w' => (w'.cell? ⟨w.heap.size, 0, none⟩ = some (.int .u64 k.1) ∧ w'.cell? ⟨w.heap.size, 1, none⟩ = some (.int .i64 k.2) ∧ w'.cell? ⟨b, 0, none⟩ = some (.int .u64 kk.1) ∧ w'.cell? ⟨b, 1, none⟩ = some (.int .i64 kk.2)) ∧ Below (wa.heap.size) wa w') (by kernel_rfl) (KP.out _ (below_of_drew ((Below.refl wa.heap.size wa)))) (fun hH => ?_)
    first | (refine wpAnyH_take (i := 0) (v := undef) rfl ?_ ?_ ?_ (fun _ _ _ h => h) ?_ ?_ ?_; kernel_rfl; kernel_rfl; kernel_rfl; exact Or.inr ⟨by rfl, rfl⟩; exact hH) | (refine wpAnyH_take (i := 0) (v := ?_) rfl ?_ ?_ ?_ (fun _ _ _ h => h) ?_ ?_ ?_; rotate_left; kernel_rfl; kernel_rfl; kernel_rfl; (focus (refine Or.inl ⟨by rfl, ?_⟩; intro w' hSw; (try dsimp only at hSw); go_simp)); exact hH) | (refine wpAnyH_take (i := 0) (v := ?_) rfl ?_ ?_ ?_ (fun _ _ _ h => h) ?_ ?_ ?_; rotate_left; kernel_rfl; kernel_rfl; kernel_rfl; (focus (refine Or.inl ⟨by rfl, ?_⟩; intro w' hSw; (try dsimp only at hSw); go_simp; with_reducible rfl)); exact hH)
    try simp only [Act.put, List.getElem_toArray, List.getElem_cons_succ, List.getElem_cons_zero, List.setIfInBounds_toArray, List.set_cons_zero, List.set_cons_succ]
    first | (refine wpAnyH_take (i := 1) (v := undef) rfl ?_ ?_ ?_ (fun _ _ _ h => h) ?_ ?_ ?_; kernel_rfl; kernel_rfl; kernel_rfl; exact Or.inr ⟨by rfl, rfl⟩; exact hH) | (refine wpAnyH_take (i := 1) (v := ?_) rfl ?_ ?_ ?_ (fun _ _ _ h => h) ?_ ?_ ?_; rotate_left; kernel_rfl; kernel_rfl; kernel_rfl; (focus (refine Or.inl ⟨by rfl, ?_⟩; intro w' hSw; (try dsimp only at hSw); go_simp)); exact hH) | (refine wpAnyH_take (i := 1) (v := ?_) rfl ?_ ?_ ?_ (fun _ _ _ h => h) ?_ ?_ ?_; rotate_left; kernel_rfl; kernel_rfl; kernel_rfl; (focus (refine Or.inl ⟨by rfl, ?_⟩; intro w' hSw; (try dsimp only at hSw); go_simp; with_reducible rfl)); exact hH)
    try simp only [Act.put, List.getElem_toArray, List.getElem_cons_succ, List.getElem_cons_zero, List.setIfInBounds_toArray, List.set_cons_zero, List.set_cons_succ]
    first | (refine wpAnyH_take (i := 2) (v := undef) rfl ?_ ?_ ?_ (fun _ _ _ h => h) ?_ ?_ ?_; kernel_rfl; kernel_rfl; kernel_rfl; exact Or.inr ⟨by rfl, rfl⟩; exact hH) | (refine wpAnyH_take (i := 2) (v := ?_) rfl ?_ ?_ ?_ (fun _ _ _ h => h) ?_ ?_ ?_; rotate_left; kernel_rfl; kernel_rfl; kernel_rfl; (focus (refine Or.inl ⟨by rfl, ?_⟩; intro w' hSw; (try dsimp only at hSw); go_simp)); exact hH) | (refine wpAnyH_take (i := 2) (v := ?_) rfl ?_ ?_ ?_ (fun _ _ _ h => h) ?_ ?_ ?_; rotate_left; kernel_rfl; kernel_rfl; kernel_rfl; (focus (refine Or.inl ⟨by rfl, ?_⟩; intro w' hSw; (try dsimp only at hSw); go_simp; with_reducible rfl)); exact hH)
    try simp only [Act.put, List.getElem_toArray, List.getElem_cons_succ, List.getElem_cons_zero, List.setIfInBounds_toArray, List.set_cons_zero, List.set_cons_succ]
    first | (refine wpAnyH_take (i := 3) (v := undef) rfl ?_ ?_ ?_ (fun _ _ _ h => h) ?_ ?_ ?_; kernel_rfl; kernel_rfl; kernel_rfl; exact Or.inr ⟨by rfl, rfl⟩; exact hH) | (refine wpAnyH_take (i := 3) (v := ?_) rfl ?_ ?_ ?_ (fun _ _ _ h => h) ?_ ?_ ?_; rotate_left; kernel_rfl; kernel_rfl; kernel_rfl; (focus (refine Or.inl ⟨by rfl, ?_⟩; intro w' hSw; (try dsimp only at hSw); go_simp)); exact hH) | (refine wpAnyH_take (i := 3) (v := ?_) rfl ?_ ?_ ?_ (fun _ _ _ h => h) ?_ ?_ ?_; rotate_left; kernel_rfl; kernel_rfl; kernel_rfl; (focus (refine Or.inl ⟨by rfl, ?_⟩; intro w' hSw; (try dsimp only at hSw); go_simp; with_reducible rfl)); exact hH)
    try simp only [Act.put, List.getElem_toArray, List.getElem_cons_succ, List.getElem_cons_zero, List.setIfInBounds_toArray, List.set_cons_zero, List.set_cons_succ]
    first | (refine wpAnyH_take (i := 4) (v := undef) rfl ?_ ?_ ?_ (fun _ _ _ h => h) ?_ ?_ ?_; kernel_rfl; kernel_rfl; kernel_rfl; exact Or.inr ⟨by rfl, rfl⟩; exact hH) | (refine wpAnyH_take (i := 4) (v := ?_) rfl ?_ ?_ ?_ (fun _ _ _ h => h) ?_ ?_ ?_; rotate_left; kernel_rfl; kernel_rfl; kernel_rfl; (focus (refine Or.inl ⟨by rfl, ?_⟩; intro w' hSw; (try dsimp only at hSw); go_simp)); exact hH) | (refine wpAnyH_take (i := 4) (v := ?_) rfl ?_ ?_ ?_ (fun _ _ _ h => h) ?_ ?_ ?_; rotate_left; kernel_rfl; kernel_rfl; kernel_rfl; (focus (refine Or.inl ⟨by rfl, ?_⟩; intro w' hSw; (try dsimp only at hSw); go_simp; with_reducible rfl)); exact hH)
    try simp only [Act.put, List.getElem_toArray, List.getElem_cons_succ, List.getElem_cons_zero, List.setIfInBounds_toArray, List.set_cons_zero, List.set_cons_succ]
    refine wpAnyH_ready (rs := [5]) (by kernel_rfl) (by simp) ?_
    refine AllReadyH.cons rfl (fun K hK => ?_) AllReadyH.nil
    go_simp
    with_reducible refine (rb_less k.1 k.2 kk.1 kk.2 _).mono ?_
    rintro e w1 ⟨rfl, hb1'⟩
    have hb1 : Below wa.heap.size wa w1 := below_next hH.2 hb1'
    try go_wp2_with fail
    refine hK.out _ _ (KP.out _ hb1) (fun hH1 => ?_)
    clear hK K hH
    have hH := hH1
    clear hH1
    try simp only [Act.put, List.getElem_toArray, List.getElem_cons_succ, List.getElem_cons_zero, List.setIfInBounds_toArray, List.set_cons_zero, List.set_cons_succ]
    refine wpAnyH_done (by kernel_rfl) ?_ _
    refine NoPanic.normal ?_
    clear hH
    rw [show klt (k.1, k.2) (kk.1, kk.2) = true from HK.out]
    have HKB := Lib.hid (HBB.out.2.next hb1)
    have hs := HSa.out.next hb1
    rw [HB.out] at hs
    have HS := Lib.hid hs
    clear hs hb1 KP HSa HBB
    have hbn : Blk w1 b 138 #[.int .u64 kk.1, .int .i64 kk.2, .int .u64 vv, .int .u64 s.1, .int .i64 s.2, .bool c, .pointer (some ⟨b1, 0, none⟩), ptrV r] ∧ (Blk w1 b1 138 #[.int .u64 k1.1, .int .i64 k1.2, .int .u64 v1, .int .u64 s1.1, .int .i64 s1.2, .bool c1, ptrV l1, ptrV r1] ∧ RepH w1 l1 ∧ RepH w1 r1) ∧ RepH w1 r := HS.out.at
    have HBN := Lib.hid hbn
    have x0 : w1.cell? ⟨b, 6, none⟩ = some (.pointer (some ⟨b1, 0, none⟩)) := hbn.1.get 6 rfl
    have x1 : w1.cell? ⟨b1, 6, none⟩ = some (ptrV l1) := hbn.2.1.1.get 6 rfl
    have RL : Hid (RepH w1 (RB.node b1 c1 l1 k1 v1 s1 r1)) := HS.out.at.2.1
    clear hbn
    go_upto_region 2 with (fail)
    go_cut [30] (fun cv wc => cv = .bool (!c1 && !l1.red) ∧ w1 = wc)
    case first =>
      go_wp2_with fail
      have hi := rh_is (RB.node b1 c1 l1 k1 v1 s1 r1) w1 RL.out
      rw [show ptrV (RB.node b1 c1 l1 k1 v1 s1 r1) = .pointer (some ⟨b1, 0, none⟩) from rfl, show RB.red (RB.node b1 c1 l1 k1 v1 s1 r1) = c1 from rfl] at hi
      with_reducible refine hi.mono ?_
      rintro e wx ⟨rfl, rfl⟩
      cases c1 with
      | true =>
        go_wp2_with fail
        go_meet
        exact ⟨rfl, rfl⟩
      | false =>
        go_wp2_with fail
        with_reducible refine (rh_is l1 w1 HBN.out.2.1.2.1).mono ?_
        rintro e wx ⟨rfl, rfl⟩
        go_wp2_with fail
        go_meet
        exact ⟨rfl, rfl⟩
    case rest =>
    obtain ⟨rfl, rfl⟩ := hcut
    clear x0 x1
    go_upto_if 30 with (fail)
    go_cut [1] (fun hv wc => (∃ (b' : Nat) (c' : Bool) (l' : RB (Int × Int)) (k' : RK) (v' : Int) (s' : (Int × Int)) (r' : RB (Int × Int)), hv = .pointer (some ⟨b', 0, none⟩) ∧ RB.goL ofH minH (.node b c (.node b1 c1 l1 k1 v1 s1 r1) kk vv s r) = (.node b' c' l' k' v' s' r') ∧ StH w wc T B (.node b' c' l' k' v' s' r')) ∧ Blk wc w.heap.size 31 #[.int .u64 k.1, .int .i64 k.2])
    case first =>
      cases hc : (!c1 && !l1.red) with
      | false =>
        go_wp2_with fail
        go_meet
        exact ⟨⟨b, c, _, kk, vv, s, r, rfl, if_neg (show ¬ ((!c1 && !l1.red) = true) from by rw [hc]; exact Bool.false_ne_true), HS.out⟩, HKB.out⟩
      | true =>
        obtain ⟨b2, c2, l2, k2, v2, s2, r2, hr2⟩ := HRN.out hc
        have hr2 : r = .node b2 c2 l2 k2 v2 s2 r2 := hr2
        subst hr2
        go_wp2_with fail
        with_reducible refine (rh_redLeft T b b1 b2 c c1 c2 l1 r1 l2 r2 kk k1 k2 vv v1 v2 s s1 s2 w1 HS.out.rep HS.out.nodup HS.out.tre HS.out.notin).mono ?_
        rintro e w2 ⟨rfl, hk⟩
        obtain ⟨bz, cz, lz, kz, vz, sz, rz, nz, hz, _⟩ := HSTEP.out
        have hz2 : RB.redLeft ofH minH (.node b c (.node b1 c1 l1 k1 v1 s1 r1) kk vv s (.node b2 c2 l2 k2 v2 s2 r2)) = .node bz cz lz kz vz sz rz := (if_pos (c := (!c1 && !l1.red) = true) hc).symm.trans hz
        rw [hz2] at hk ⊢
        have hkey := HKB.out.fr hk.fr (fun hx => by have := RepH.lt HH.out.1 _ hx; omega)
        have HK2 := Lib.hid (And.intro (HS.out.join (by rw [HB.out] at hk; exact hk)) hkey)
        clear hk hz2 hkey
        go_wp2_with fail
        go_meet
        exact ⟨⟨bz, cz, lz, kz, vz, sz, rz, rfl, hz, HK2.out.1⟩, HK2.out.2⟩
    case rest =>
    obtain ⟨⟨b', c', l', k', v', s', r', rfl, he, hS⟩, hkey⟩ := hcut
    obtain ⟨wo, rfl⟩ : ∃ x : World, x = wc := ⟨_, rfl⟩
    obtain ⟨bz, cz, lz, kz, vz, sz, rz, n1, hz, hpre, hpost⟩ := HSTEP.out
    rw [he] at hz
    injection hz with q1 q2 q3 q4 q5 q6 q7
    subst q1 q2 q3 q4 q5 q6 q7
    have HL := Lib.hid (And.intro hpre hpost)
    have hit := HIT.out
    rw [he] at hit
    have hR2 : Rises (l'.items ++ (k', v') :: r'.items) := by have := HRG.out.1; rw [← hit] at this; exact this
    have hkk : klt k k' = true := by
      rcases RB.goL_root he with e | e
      · rw [e]; exact HK.out
      · exact klt_trans HK.out ((Rises.mid hR2).1 _ e)
    have hgl : ∃ v, get k l'.items = some v := by
      obtain ⟨v, hv⟩ := HRG.out.2
      rw [← hit] at hv
      exact ⟨v, get_l hR2 hv hkk⟩
    have HG := Lib.hid (And.intro hR2 (And.intro hkk hgl))
    have HITT := Lib.hid hit
    have HW := Lib.hid hS
    have HKY := Lib.hid hkey
    have hsz : l'.size ≤ N := by
      have e := hS.perm.length_eq
      rw [← HB.out] at e
      rw [RB.size_blocks, RB.size_blocks] at e
      have := HSZ.out
      simp only [RB.size] at e this
      omega
    have HSZ2 := Lib.hid hsz
    clear hpre hpost hit hS hkey hsz he hR2 hkk hgl HSTEP HRN HIT RL HBN HS HSZ HKB HRG
    have FACT : (b' ∉ l'.blocks ∧ b' ∉ r'.blocks) ∧ l'.blocks.Nodup ∧ (∀ x, x ∈ r'.blocks → x ∉ l'.blocks) ∧ T ≠ b' ∧ T ∉ l'.blocks ∧ w.heap.size ∉ l'.blocks ∧ w.heap.size ≠ b' := by
      have h1 := HW.out.nodup
      have h2 := HW.out.notin
      have h1' : (b' :: (l'.blocks ++ r'.blocks)).Nodup := h1
      have h2' : T ∉ (b' :: (l'.blocks ++ r'.blocks)) := h2
      have h0 : ∀ x ∈ (b' :: (l'.blocks ++ r'.blocks)), x < w.heap.size := fun x hx => RepH.lt HH.out.1 x (by rw [HB.out]; exact HW.out.perm.mem_iff.1 hx)
      obtain ⟨h3, h4⟩ := List.nodup_cons.1 h1'
      obtain ⟨h5, h6, h7⟩ := List.nodup_append.1 h4
      simp only [List.mem_cons, List.mem_append, not_or] at h2' h3
      exact ⟨h3, h5, fun x hx hx2 => h7 x hx2 x hx rfl, h2'.1, h2'.2.1, fun hx => by have := h0 _ (List.mem_cons_of_mem _ (List.mem_append.2 (Or.inl hx))); omega, fun e => by have := h0 b' (List.mem_cons_self ..); omega⟩
    have HF := Lib.hid FACT
    clear FACT
    go_upto_region 4 with (fail)
    have hpl : RB.DropPre ofH minH n1 l' ∧ RB.red (RB.right l') = false := HL.out.1
    have HIC := Lib.hid (HIH.out l' n1 wo.drew HSZ2.out hpl.1 (fun b c l kk vv s r e _ => by have h := hpl.2; rw [e] at h; exact h) HG.out.1.left HG.out.2.2 (HW.out.at.2.1.below (below_of_drew (Below.refl _ _))) HF.out.2.1 (HW.out.tre.below (below_of_drew (Below.refl _ _))) HF.out.2.2.2.2.1)
    clear hpl
    have KQ : Hid (∀ w', Fr ((fun j => j ∈ l'.blocks)) wo w' → (w'.cell? ⟨w.heap.size, 0, none⟩ = some (.int .u64 k.1) ∧ w'.cell? ⟨w.heap.size, 1, none⟩ = some (.int .i64 k.2) ∧ w'.cell? ⟨b', 6, none⟩ = some (.pointer (ptrO l'))) ∧ Fr ((fun j => j ∈ l'.blocks)) wo w') := fun w' hb => ⟨⟨(HKY.out.fr hb HF.out.2.2.2.2.2.1).get 0 rfl, (HKY.out.fr hb HF.out.2.2.2.2.2.1).get 1 rfl, (by rw [← ptrV_eq]; exact (HW.out.at.1.fr hb HF.out.1.1).get 6 rfl)⟩, hb⟩
    refine wp_region_noPanic ?_
    refine wp_region_Z [10] (fun w' => (w'.cell? ⟨w.heap.size, 0, none⟩ = some (.int .u64 k.1) ∧ w'.cell? ⟨w.heap.size, 1, none⟩ = some (.int .i64 k.2) ∧ w'.cell? ⟨b', 6, none⟩ = some (.pointer (ptrO l'))) ∧ Fr ((fun j => j ∈ l'.blocks)) wo w') (by kernel_rfl) (KQ.out _ (Fr.drew ((Fr.refl (fun j => j ∈ l'.blocks) wo)))) (fun hH => ?_)
    have hbR := Fr.drew ((Fr.refl (fun j => j ∈ l'.blocks) wo))
    first | (refine wpAnyZ_take (i := 0) (v := undef) rfl ?_ ?_ ?_ ?_ (fun _ _ _ h => h) ?_ ?_ ?_; kernel_rfl; kernel_rfl; kernel_rfl; kernel_rfl; exact Or.inr ⟨by rfl, rfl⟩; exact hH) | (refine wpAnyZ_take (i := 0) (v := ?_) rfl ?_ ?_ ?_ ?_ (fun _ _ _ h => h) ?_ ?_ ?_; rotate_left; kernel_rfl; kernel_rfl; kernel_rfl; kernel_rfl; (focus (refine Or.inl ⟨by rfl, ?_⟩; intro w' hSw; (try dsimp only at hSw); go_simp)); exact hH) | (refine wpAnyZ_take (i := 0) (v := ?_) rfl ?_ ?_ ?_ ?_ (fun _ _ _ h => h) ?_ ?_ ?_; rotate_left; kernel_rfl; kernel_rfl; kernel_rfl; kernel_rfl; (focus (refine Or.inl ⟨by rfl, ?_⟩; intro w' hSw; (try dsimp only at hSw); go_simp; with_reducible rfl)); exact hH)
    try simp only [Act.put, List.getElem_toArray, List.getElem_cons_succ, List.getElem_cons_zero, List.setIfInBounds_toArray, List.set_cons_zero, List.set_cons_succ]
    first | (refine wpAnyZ_take (i := 1) (v := undef) rfl ?_ ?_ ?_ ?_ (fun _ _ _ h => h) ?_ ?_ ?_; kernel_rfl; kernel_rfl; kernel_rfl; kernel_rfl; exact Or.inr ⟨by rfl, rfl⟩; exact hH) | (refine wpAnyZ_take (i := 1) (v := ?_) rfl ?_ ?_ ?_ ?_ (fun _ _ _ h => h) ?_ ?_ ?_; rotate_left; kernel_rfl; kernel_rfl; kernel_rfl; kernel_rfl; (focus (refine Or.inl ⟨by rfl, ?_⟩; intro w' hSw; (try dsimp only at hSw); go_simp)); exact hH) | (refine wpAnyZ_take (i := 1) (v := ?_) rfl ?_ ?_ ?_ ?_ (fun _ _ _ h => h) ?_ ?_ ?_; rotate_left; kernel_rfl; kernel_rfl; kernel_rfl; kernel_rfl; (focus (refine Or.inl ⟨by rfl, ?_⟩; intro w' hSw; (try dsimp only at hSw); go_simp; with_reducible rfl)); exact hH)
    try simp only [Act.put, List.getElem_toArray, List.getElem_cons_succ, List.getElem_cons_zero, List.setIfInBounds_toArray, List.set_cons_zero, List.set_cons_succ]
    first | (refine wpAnyZ_take (i := 2) (v := undef) rfl ?_ ?_ ?_ ?_ (fun _ _ _ h => h) ?_ ?_ ?_; kernel_rfl; kernel_rfl; kernel_rfl; kernel_rfl; exact Or.inr ⟨by rfl, rfl⟩; exact hH) | (refine wpAnyZ_take (i := 2) (v := ?_) rfl ?_ ?_ ?_ ?_ (fun _ _ _ h => h) ?_ ?_ ?_; rotate_left; kernel_rfl; kernel_rfl; kernel_rfl; kernel_rfl; (focus (refine Or.inl ⟨by rfl, ?_⟩; intro w' hSw; (try dsimp only at hSw); go_simp)); exact hH) | (refine wpAnyZ_take (i := 2) (v := ?_) rfl ?_ ?_ ?_ ?_ (fun _ _ _ h => h) ?_ ?_ ?_; rotate_left; kernel_rfl; kernel_rfl; kernel_rfl; kernel_rfl; (focus (refine Or.inl ⟨by rfl, ?_⟩; intro w' hSw; (try dsimp only at hSw); go_simp; with_reducible rfl)); exact hH)
    try simp only [Act.put, List.getElem_toArray, List.getElem_cons_succ, List.getElem_cons_zero, List.setIfInBounds_toArray, List.set_cons_zero, List.set_cons_succ]
    first | (refine wpAnyZ_take (i := 3) (v := undef) rfl ?_ ?_ ?_ ?_ (fun _ _ _ h => h) ?_ ?_ ?_; kernel_rfl; kernel_rfl; kernel_rfl; kernel_rfl; exact Or.inr ⟨by rfl, rfl⟩; exact hH) | (refine wpAnyZ_take (i := 3) (v := ?_) rfl ?_ ?_ ?_ ?_ (fun _ _ _ h => h) ?_ ?_ ?_; rotate_left; kernel_rfl; kernel_rfl; kernel_rfl; kernel_rfl; (focus (refine Or.inl ⟨by rfl, ?_⟩; intro w' hSw; (try dsimp only at hSw); go_simp)); exact hH) | (refine wpAnyZ_take (i := 3) (v := ?_) rfl ?_ ?_ ?_ ?_ (fun _ _ _ h => h) ?_ ?_ ?_; rotate_left; kernel_rfl; kernel_rfl; kernel_rfl; kernel_rfl; (focus (refine Or.inl ⟨by rfl, ?_⟩; intro w' hSw; (try dsimp only at hSw); go_simp; with_reducible rfl)); exact hH)
    try simp only [Act.put, List.getElem_toArray, List.getElem_cons_succ, List.getElem_cons_zero, List.setIfInBounds_toArray, List.set_cons_zero, List.set_cons_succ]
    first | (refine wpAnyZ_take (i := 4) (v := undef) rfl ?_ ?_ ?_ ?_ (fun _ _ _ h => h) ?_ ?_ ?_; kernel_rfl; kernel_rfl; kernel_rfl; kernel_rfl; exact Or.inr ⟨by rfl, rfl⟩; exact hH) | (refine wpAnyZ_take (i := 4) (v := ?_) rfl ?_ ?_ ?_ ?_ (fun _ _ _ h => h) ?_ ?_ ?_; rotate_left; kernel_rfl; kernel_rfl; kernel_rfl; kernel_rfl; (focus (refine Or.inl ⟨by rfl, ?_⟩; intro w' hSw; (try dsimp only at hSw); go_simp)); exact hH) | (refine wpAnyZ_take (i := 4) (v := ?_) rfl ?_ ?_ ?_ ?_ (fun _ _ _ h => h) ?_ ?_ ?_; rotate_left; kernel_rfl; kernel_rfl; kernel_rfl; kernel_rfl; (focus (refine Or.inl ⟨by rfl, ?_⟩; intro w' hSw; (try dsimp only at hSw); go_simp; with_reducible rfl)); exact hH)
    try simp only [Act.put, List.getElem_toArray, List.getElem_cons_succ, List.getElem_cons_zero, List.setIfInBounds_toArray, List.set_cons_zero, List.set_cons_succ]
    first | (refine wpAnyZ_take (i := 5) (v := undef) rfl ?_ ?_ ?_ ?_ (fun _ _ _ h => h) ?_ ?_ ?_; kernel_rfl; kernel_rfl; kernel_rfl; kernel_rfl; exact Or.inr ⟨by rfl, rfl⟩; exact hH) | (refine wpAnyZ_take (i := 5) (v := ?_) rfl ?_ ?_ ?_ ?_ (fun _ _ _ h => h) ?_ ?_ ?_; rotate_left; kernel_rfl; kernel_rfl; kernel_rfl; kernel_rfl; (focus (refine Or.inl ⟨by rfl, ?_⟩; intro w' hSw; (try dsimp only at hSw); go_simp)); exact hH) | (refine wpAnyZ_take (i := 5) (v := ?_) rfl ?_ ?_ ?_ ?_ (fun _ _ _ h => h) ?_ ?_ ?_; rotate_left; kernel_rfl; kernel_rfl; kernel_rfl; kernel_rfl; (focus (refine Or.inl ⟨by rfl, ?_⟩; intro w' hSw; (try dsimp only at hSw); go_simp; with_reducible rfl)); exact hH)
    try simp only [Act.put, List.getElem_toArray, List.getElem_cons_succ, List.getElem_cons_zero, List.setIfInBounds_toArray, List.set_cons_zero, List.set_cons_succ]
    first | (refine wpAnyZ_take (i := 6) (v := undef) rfl ?_ ?_ ?_ ?_ (fun _ _ _ h => h) ?_ ?_ ?_; kernel_rfl; kernel_rfl; kernel_rfl; kernel_rfl; exact Or.inr ⟨by rfl, rfl⟩; exact hH) | (refine wpAnyZ_take (i := 6) (v := ?_) rfl ?_ ?_ ?_ ?_ (fun _ _ _ h => h) ?_ ?_ ?_; rotate_left; kernel_rfl; kernel_rfl; kernel_rfl; kernel_rfl; (focus (refine Or.inl ⟨by rfl, ?_⟩; intro w' hSw; (try dsimp only at hSw); go_simp)); exact hH) | (refine wpAnyZ_take (i := 6) (v := ?_) rfl ?_ ?_ ?_ ?_ (fun _ _ _ h => h) ?_ ?_ ?_; rotate_left; kernel_rfl; kernel_rfl; kernel_rfl; kernel_rfl; (focus (refine Or.inl ⟨by rfl, ?_⟩; intro w' hSw; (try dsimp only at hSw); go_simp; with_reducible rfl)); exact hH)
    try simp only [Act.put, List.getElem_toArray, List.getElem_cons_succ, List.getElem_cons_zero, List.setIfInBounds_toArray, List.set_cons_zero, List.set_cons_succ]
    refine wpAnyZ_ready (rs := [7]) (by kernel_rfl) (by simp) ?_
    refine (AllReadyZ.cons rfl (fun K hK => ?_) AllReadyZ.nil)
    go_simp
    with_reducible refine HIC.out.mono ?_
    rintro e w1 ⟨t2, d, rfl, hd, hi⟩
    have fr1 : Fr (fun j => j ∈ l'.blocks) wo w1 := hH.2.trans hd.fr
    have bk1 := HW.out.at.1.fr fr1 HF.out.1.1
    have HD := Lib.hid (And.intro hd (And.intro hi (And.intro fr1 bk1)))
    have ff1 := bk1.frozen 6
    have cc1 : w1.cell? ⟨b', 6, none⟩ = some (.pointer (ptrO l')) := by rw [← ptrV_eq]; exact bk1.get 6 rfl
    clear hd hi bk1
    try go_wp2_with fail
    have hH1 := KQ.out _ fr1
    refine hK.out _ _ (fun _ => hH1) ?_
    clear hK K hH
    have hH := hH1
    clear hH1
    try simp only [Act.put, List.getElem_toArray, List.getElem_cons_succ, List.getElem_cons_zero, List.setIfInBounds_toArray, List.set_cons_zero, List.set_cons_succ]
    refine wpAnyZ_ready (rs := [8]) (by kernel_rfl) (by simp) ?_
    refine (AllReadyZ.cons rfl (fun K hK => ?_) AllReadyZ.nil)
    go_simp
    refine hK.out _ _ (fun _ => hH) ?_
    clear hK K
    try simp only [Act.put, List.getElem_toArray, List.getElem_cons_succ, List.getElem_cons_zero, List.setIfInBounds_toArray, List.set_cons_zero, List.set_cons_succ]
    first | (refine wpAnyZ_take (i := 9) (v := undef) rfl ?_ ?_ ?_ ?_ (fun _ _ _ h => h) ?_ ?_ ?_; kernel_rfl; kernel_rfl; kernel_rfl; kernel_rfl; exact Or.inr ⟨by rfl, rfl⟩; exact hH) | (refine wpAnyZ_take (i := 9) (v := ?_) rfl ?_ ?_ ?_ ?_ (fun _ _ _ h => h) ?_ ?_ ?_; rotate_left; kernel_rfl; kernel_rfl; kernel_rfl; kernel_rfl; (focus (refine Or.inl ⟨by rfl, ?_⟩; intro w' hSw; (try dsimp only at hSw); go_simp)); exact hH) | (refine wpAnyZ_take (i := 9) (v := ?_) rfl ?_ ?_ ?_ ?_ (fun _ _ _ h => h) ?_ ?_ ?_; rotate_left; kernel_rfl; kernel_rfl; kernel_rfl; kernel_rfl; (focus (refine Or.inl ⟨by rfl, ?_⟩; intro w' hSw; (try dsimp only at hSw); go_simp; with_reducible rfl)); exact hH)
    try simp only [Act.put, List.getElem_toArray, List.getElem_cons_succ, List.getElem_cons_zero, List.setIfInBounds_toArray, List.set_cons_zero, List.set_cons_succ]
    refine wpAnyZ_ready (rs := [10]) (by kernel_rfl) (by simp) ?_
    refine (AllReadyZ.cons rfl (fun K hK => ?_) AllReadyZ.nil)
    go_simp
    refine hK.out _ _ (fun h => absurd (by simp) h) ?_
    clear hK K
    try simp only [Act.put, List.getElem_toArray, List.getElem_cons_succ, List.getElem_cons_zero, List.setIfInBounds_toArray, List.set_cons_zero, List.set_cons_succ]
    refine wpAnyZ_done (by kernel_rfl) ?_ _
    refine NoPanic.normal ?_
    skip
    clear ff1 cc1 fr1 KQ
    have F3 : Fr (fun j => j = b') w1 (w1.setCell ⟨b', 6, none⟩ (.pointer (ptrO t2))) := (Fr.refl (fun j => j = b') w1).setCell (p := ⟨b', 6, none⟩) (fun _ => rfl) _
    have hp3 : List.Perm (RB.blocks (.node b' c' l' k' v' s' r')) (d :: (RB.node b' c' t2 k' v' s' r').blocks) := RB.blocks_left2 HD.out.1.perm
    have hnd3 := (hp3.nodup_iff.1 HW.out.nodup)
    have hT3 : T ∉ (RB.node b' c' t2 k' v' s' r').blocks := fun hx => HW.out.notin (hp3.mem_iff.2 (List.mem_cons_of_mem _ hx))
    have hnd4 := (List.nodup_cons.1 hnd3).2
    have hbt : b' ∉ t2.blocks := fun hx => HF.out.1.1 (HD.out.1.perm.mem_iff.2 (List.mem_cons_of_mem _ hx))
    have hR3 : RepH (w1.setCell ⟨b', 6, none⟩ (.pointer (ptrO t2))) (.node b' c' t2 k' v' s' r') := by
      have h1 := HD.out.2.2.2.put 6 (.pointer (ptrO t2))
      have h2 := RepH.fr F3 HD.out.1.rep (fun x hx e => hbt (e ▸ hx))
      have h3 := RepH.fr F3 (RepH.fr HD.out.2.2.1 HW.out.at.2.2 (fun x hx hx2 => HF.out.2.2.1 x hx hx2)) (fun x hx e => HF.out.1.2 (e ▸ hx))
      refine ⟨?_, h2, h3⟩
      rw [ptrV_eq t2]
      exact h1
    have hTr := HD.out.1.tre.fr F3 HF.out.2.2.2.1
    have HQ := Lib.hid (And.intro hR3 (And.intro hnd4 (And.intro hTr (And.intro hT3 (And.intro F3 hp3)))))
    clear F3 hp3 hnd3 hT3 hnd4 hbt hR3 hTr
    obtain ⟨wp, hwp⟩ : ∃ x : World, x = w1 := ⟨_, rfl⟩
    rw [← hwp] at HQ HD ⊢
    clear hwp
    generalize wp.setCell ⟨b', 6, none⟩ (.pointer (ptrO t2)) = w3 at HQ ⊢
    go_wp2_with fail
    with_reducible refine (rh_balance T b' c' t2 k' v' s' r' w3 HQ.out.1 HQ.out.2.1 HQ.out.2.2.1 HQ.out.2.2.2.1).mono ?_
    rintro e w4 ⟨rfl, hS⟩
    have HS4 := Lib.hid hS
    clear hS
    go_wp2_with fail
    go_ret
    obtain ⟨hd, hi, hfr, -⟩ := HD.out
    obtain ⟨_, _, _, _, F3, hp3⟩ := HQ.out
    have hS := HS4.out
    refine ⟨RB.bal ofH minH (.node b' c' t2 k' v' s' r'), d, by rw [ptrV_eq]; rfl, ⟨HL.out.2 t2 hd.post, hS.rep, ?_, ?_, hS.tre⟩, ?_⟩
    · rw [HB.out]
      refine HW.out.fr.trans ((hfr.mono fun j _ hj => ?_).trans ((F3.mono fun j _ hj => ?_).trans (hS.fr.mono fun j _ hj => ?_)))
      · exact HW.out.perm.mem_iff.1 (List.mem_cons_of_mem _ (List.mem_append.2 (Or.inl hj)))
      · exact HW.out.perm.mem_iff.1 (by rw [hj]; exact List.mem_cons_self ..)
      · exact HW.out.perm.mem_iff.1 (hp3.mem_iff.2 (List.mem_cons_of_mem _ hj))
    · rw [HB.out]
      exact HW.out.perm.symm.trans (hp3.trans (hS.perm.symm.cons d))
    · rw [← HITT.out, RB.items_bal]
      simp only [RB.items]
      rw [hi]
      exact (del_left (p := (k', v')) HG.out.1 HG.out.2.1).symm

end Go.Proofs.Ytjlnbpomncglcaa
