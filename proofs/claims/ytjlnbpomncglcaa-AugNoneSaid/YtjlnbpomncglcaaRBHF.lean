/-
  Red-black trees in memory (h): a value put in.
-/
import Derived.Test.YtjlnbpomncglcaaProg
import Derived.Test.YtjlnbpomncglcaaRBHE
import Derived.StillTailTactics
namespace Go.Proofs.Ytjlnbpomncglcaa
set_option linter.unusedVariables false
set_option linter.unusedSimpArgs false
set_option maxRecDepth 100000
open Go.RowKit

/-- What putting in leaves. -/
structure PutH (w w' : World) (T n : Nat) (k : RK) (v : Int) (t t' : RB (Int × Int)) (nb : Nat) : Prop where
  post : RB.PutPost ofH minH n t t'
  items : t'.items = ins k v t.items
  rep : RepH w' t'
  fr : Fr (fun j => j ∈ t.blocks) w w'
  perm : List.Perm t'.blocks (nb :: t.blocks)
  ge : w.heap.size ≤ nb
  tre : TreH w' T
theorem key_eta (k : RK) : ((k.1, k.2) : RK) = k := rfl
/-- A node with another tree below it. -/
theorem blocks_left {α : Type} {b nb : Nat} {c : Bool} {l l' r : RB α} {k : RK} {v : Int} {s : α} (hp : List.Perm l'.blocks (nb :: l.blocks)) : List.Perm (RB.node b c l' k v s r).blocks (nb :: (RB.node b c l k v s r).blocks) := by
  show List.Perm (b :: (l'.blocks ++ r.blocks)) (nb :: b :: (l.blocks ++ r.blocks))
  exact ((hp.append_right r.blocks).cons b).trans (List.Perm.swap ..)
theorem blocks_right {α : Type} {b nb : Nat} {c : Bool} {l r r' : RB α} {k : RK} {v : Int} {s : α} (hp : List.Perm r'.blocks (nb :: r.blocks)) : List.Perm (RB.node b c l k v s r').blocks (nb :: (RB.node b c l k v s r).blocks) := by
  show List.Perm (b :: (l.blocks ++ r'.blocks)) (nb :: b :: (l.blocks ++ r.blocks))
  refine (((hp.append_left l.blocks).trans List.perm_middle).cons b).trans (List.Perm.swap ..)
set_option maxHeartbeats 16000000 in
theorem rh_put_nil (T : Nat) (k : RK) (v : Int) (w : World) (hT : TreH w T) :
    Calls Try.prog 108 #[.pointer (some ⟨T, 0, none⟩), .pointer none, .agg #[.int .u64 k.1, .int .i64 k.2], .int .u64 v] w fun e w' => ∃ t' nb, e = .returned (.pointer (ptrO t')) ∧ PutH w w' T 0 k v .nil t' nb := by
  have HT := Lib.hid hT
  clear hT
  go_enter Try.func108, Try.ntmps108
  go_upto_region 3 with (fail)
  have hb0 : Below w.heap.size w (w.alloc (.cells #[.int .u64 k.1, .int .i64 k.2] 31)) := by go_grown
  have kb := Blk.new w 31 #[.int .u64 k.1, .int .i64 k.2]
  generalize w.alloc (.cells #[.int .u64 k.1, .int .i64 k.2] 31) = wa at hb0 kb ⊢
  have HB := Lib.hid hb0
  have KB := Lib.hid kb
  clear hb0 kb
  have KP : Hid (∀ w', Below (wa.heap.size) wa w' → (w'.cell? ⟨T, 0, none⟩ = some ((.func (.func 86) #[] #[])) ∧ w'.cell? ⟨w.heap.size, 0, none⟩ = some (.int .u64 k.1) ∧ w'.cell? ⟨w.heap.size, 1, none⟩ = some (.int .i64 k.2)) ∧ Below (wa.heap.size) wa w') := fun w' hb => ⟨⟨((HT.out.below HB.out).below hb).c0, (KB.out.next hb).get 0 rfl, (KB.out.next hb).get 1 rfl⟩, hb⟩
  refine wp_region_noPanic ?_
  refine wp_region_held_drew (S := fun w' => (w'.cell? ⟨T, 0, none⟩ = some ((.func (.func 86) #[] #[])) ∧ w'.cell? ⟨w.heap.size, 0, none⟩ = some (.int .u64 k.1) ∧ w'.cell? ⟨w.heap.size, 1, none⟩ = some (.int .i64 k.2)) ∧ Below (wa.heap.size) wa w') (by kernel_rfl) (KP.out _ (below_of_drew ((Below.refl wa.heap.size wa)))) (fun hH => ?_)
  have hbR := below_of_drew ((Below.refl wa.heap.size wa))
  first | (refine wpAnyH_take (i := 0) (v := undef) rfl ?_ ?_ ?_ (fun _ _ _ h => h) ?_ ?_ ?_; kernel_rfl; kernel_rfl; kernel_rfl; exact Or.inr ⟨by rfl, rfl⟩; exact hH) | (refine wpAnyH_take (i := 0) (v := ?_) rfl ?_ ?_ ?_ (fun _ _ _ h => h) ?_ ?_ ?_; rotate_left; kernel_rfl; kernel_rfl; kernel_rfl; (focus (refine Or.inl ⟨by rfl, ?_⟩; intro w' hSw; (try dsimp only at hSw); go_simp)); exact hH) | (refine wpAnyH_take (i := 0) (v := ?_) rfl ?_ ?_ ?_ (fun _ _ _ h => h) ?_ ?_ ?_; rotate_left; kernel_rfl; kernel_rfl; kernel_rfl; (focus (refine Or.inl ⟨by rfl, ?_⟩; intro w' hSw; (try dsimp only at hSw); go_simp; with_reducible rfl)); exact hH)
  try simp only [Act.put, List.getElem_toArray, List.getElem_cons_succ, List.getElem_cons_zero, List.setIfInBounds_toArray, List.set_cons_zero, List.set_cons_succ]
  first | (refine wpAnyH_take (i := 1) (v := undef) rfl ?_ ?_ ?_ (fun _ _ _ h => h) ?_ ?_ ?_; kernel_rfl; kernel_rfl; kernel_rfl; exact Or.inr ⟨by rfl, rfl⟩; exact hH) | (refine wpAnyH_take (i := 1) (v := ?_) rfl ?_ ?_ ?_ (fun _ _ _ h => h) ?_ ?_ ?_; rotate_left; kernel_rfl; kernel_rfl; kernel_rfl; (focus (refine Or.inl ⟨by rfl, ?_⟩; intro w' hSw; (try dsimp only at hSw); go_simp)); exact hH) | (refine wpAnyH_take (i := 1) (v := ?_) rfl ?_ ?_ ?_ (fun _ _ _ h => h) ?_ ?_ ?_; rotate_left; kernel_rfl; kernel_rfl; kernel_rfl; (focus (refine Or.inl ⟨by rfl, ?_⟩; intro w' hSw; (try dsimp only at hSw); go_simp; with_reducible rfl)); exact hH)
  try simp only [Act.put, List.getElem_toArray, List.getElem_cons_succ, List.getElem_cons_zero, List.setIfInBounds_toArray, List.set_cons_zero, List.set_cons_succ]
  first | (refine wpAnyH_take (i := 2) (v := undef) rfl ?_ ?_ ?_ (fun _ _ _ h => h) ?_ ?_ ?_; kernel_rfl; kernel_rfl; kernel_rfl; exact Or.inr ⟨by rfl, rfl⟩; exact hH) | (refine wpAnyH_take (i := 2) (v := ?_) rfl ?_ ?_ ?_ (fun _ _ _ h => h) ?_ ?_ ?_; rotate_left; kernel_rfl; kernel_rfl; kernel_rfl; (focus (refine Or.inl ⟨by rfl, ?_⟩; intro w' hSw; (try dsimp only at hSw); go_simp)); exact hH) | (refine wpAnyH_take (i := 2) (v := ?_) rfl ?_ ?_ ?_ (fun _ _ _ h => h) ?_ ?_ ?_; rotate_left; kernel_rfl; kernel_rfl; kernel_rfl; (focus (refine Or.inl ⟨by rfl, ?_⟩; intro w' hSw; (try dsimp only at hSw); go_simp; with_reducible rfl)); exact hH)
  try simp only [Act.put, List.getElem_toArray, List.getElem_cons_succ, List.getElem_cons_zero, List.setIfInBounds_toArray, List.set_cons_zero, List.set_cons_succ]
  first | (refine wpAnyH_take (i := 3) (v := undef) rfl ?_ ?_ ?_ (fun _ _ _ h => h) ?_ ?_ ?_; kernel_rfl; kernel_rfl; kernel_rfl; exact Or.inr ⟨by rfl, rfl⟩; exact hH) | (refine wpAnyH_take (i := 3) (v := ?_) rfl ?_ ?_ ?_ (fun _ _ _ h => h) ?_ ?_ ?_; rotate_left; kernel_rfl; kernel_rfl; kernel_rfl; (focus (refine Or.inl ⟨by rfl, ?_⟩; intro w' hSw; (try dsimp only at hSw); go_simp)); exact hH) | (refine wpAnyH_take (i := 3) (v := ?_) rfl ?_ ?_ ?_ (fun _ _ _ h => h) ?_ ?_ ?_; rotate_left; kernel_rfl; kernel_rfl; kernel_rfl; (focus (refine Or.inl ⟨by rfl, ?_⟩; intro w' hSw; (try dsimp only at hSw); go_simp; with_reducible rfl)); exact hH)
  try simp only [Act.put, List.getElem_toArray, List.getElem_cons_succ, List.getElem_cons_zero, List.setIfInBounds_toArray, List.set_cons_zero, List.set_cons_succ]
  first | (refine wpAnyH_take (i := 4) (v := undef) rfl ?_ ?_ ?_ (fun _ _ _ h => h) ?_ ?_ ?_; kernel_rfl; kernel_rfl; kernel_rfl; exact Or.inr ⟨by rfl, rfl⟩; exact hH) | (refine wpAnyH_take (i := 4) (v := ?_) rfl ?_ ?_ ?_ (fun _ _ _ h => h) ?_ ?_ ?_; rotate_left; kernel_rfl; kernel_rfl; kernel_rfl; (focus (refine Or.inl ⟨by rfl, ?_⟩; intro w' hSw; (try dsimp only at hSw); go_simp)); exact hH) | (refine wpAnyH_take (i := 4) (v := ?_) rfl ?_ ?_ ?_ (fun _ _ _ h => h) ?_ ?_ ?_; rotate_left; kernel_rfl; kernel_rfl; kernel_rfl; (focus (refine Or.inl ⟨by rfl, ?_⟩; intro w' hSw; (try dsimp only at hSw); go_simp; with_reducible rfl)); exact hH)
  try simp only [Act.put, List.getElem_toArray, List.getElem_cons_succ, List.getElem_cons_zero, List.setIfInBounds_toArray, List.set_cons_zero, List.set_cons_succ]
  first | (refine wpAnyH_take (i := 5) (v := undef) rfl ?_ ?_ ?_ (fun _ _ _ h => h) ?_ ?_ ?_; kernel_rfl; kernel_rfl; kernel_rfl; exact Or.inr ⟨by rfl, rfl⟩; exact hH) | (refine wpAnyH_take (i := 5) (v := ?_) rfl ?_ ?_ ?_ (fun _ _ _ h => h) ?_ ?_ ?_; rotate_left; kernel_rfl; kernel_rfl; kernel_rfl; (focus (refine Or.inl ⟨by rfl, ?_⟩; intro w' hSw; (try dsimp only at hSw); go_simp)); exact hH) | (refine wpAnyH_take (i := 5) (v := ?_) rfl ?_ ?_ ?_ (fun _ _ _ h => h) ?_ ?_ ?_; rotate_left; kernel_rfl; kernel_rfl; kernel_rfl; (focus (refine Or.inl ⟨by rfl, ?_⟩; intro w' hSw; (try dsimp only at hSw); go_simp; with_reducible rfl)); exact hH)
  try simp only [Act.put, List.getElem_toArray, List.getElem_cons_succ, List.getElem_cons_zero, List.setIfInBounds_toArray, List.set_cons_zero, List.set_cons_succ]
  first | (refine wpAnyH_take (i := 6) (v := undef) rfl ?_ ?_ ?_ (fun _ _ _ h => h) ?_ ?_ ?_; kernel_rfl; kernel_rfl; kernel_rfl; exact Or.inr ⟨by rfl, rfl⟩; exact hH) | (refine wpAnyH_take (i := 6) (v := ?_) rfl ?_ ?_ ?_ (fun _ _ _ h => h) ?_ ?_ ?_; rotate_left; kernel_rfl; kernel_rfl; kernel_rfl; (focus (refine Or.inl ⟨by rfl, ?_⟩; intro w' hSw; (try dsimp only at hSw); go_simp)); exact hH) | (refine wpAnyH_take (i := 6) (v := ?_) rfl ?_ ?_ ?_ (fun _ _ _ h => h) ?_ ?_ ?_; rotate_left; kernel_rfl; kernel_rfl; kernel_rfl; (focus (refine Or.inl ⟨by rfl, ?_⟩; intro w' hSw; (try dsimp only at hSw); go_simp; with_reducible rfl)); exact hH)
  try simp only [Act.put, List.getElem_toArray, List.getElem_cons_succ, List.getElem_cons_zero, List.setIfInBounds_toArray, List.set_cons_zero, List.set_cons_succ]
  first | (refine wpAnyH_take (i := 7) (v := undef) rfl ?_ ?_ ?_ (fun _ _ _ h => h) ?_ ?_ ?_; kernel_rfl; kernel_rfl; kernel_rfl; exact Or.inr ⟨by rfl, rfl⟩; exact hH) | (refine wpAnyH_take (i := 7) (v := ?_) rfl ?_ ?_ ?_ (fun _ _ _ h => h) ?_ ?_ ?_; rotate_left; kernel_rfl; kernel_rfl; kernel_rfl; (focus (refine Or.inl ⟨by rfl, ?_⟩; intro w' hSw; (try dsimp only at hSw); go_simp)); exact hH) | (refine wpAnyH_take (i := 7) (v := ?_) rfl ?_ ?_ ?_ (fun _ _ _ h => h) ?_ ?_ ?_; rotate_left; kernel_rfl; kernel_rfl; kernel_rfl; (focus (refine Or.inl ⟨by rfl, ?_⟩; intro w' hSw; (try dsimp only at hSw); go_simp; with_reducible rfl)); exact hH)
  try simp only [Act.put, List.getElem_toArray, List.getElem_cons_succ, List.getElem_cons_zero, List.setIfInBounds_toArray, List.set_cons_zero, List.set_cons_succ]
  refine wpAnyH_ready (rs := [8]) (by kernel_rfl) (by simp) ?_
  refine (AllReadyH.cons rfl (fun K hK => ?_) AllReadyH.nil)
  go_simp
  with_reducible refine (rh_of k v _).mono ?_
  rintro e w1 ⟨rfl, hb1'⟩
  have hb1 : Below (wa.heap.size) wa w1 := below_next hH.2 hb1'
  try go_wp2_with fail
  refine hK.out _ _ (KP.out _ hb1) (fun hH1 => ?_)
  clear hK K hH
  have hH := hH1
  clear hH1
  try simp only [Act.put, List.getElem_toArray, List.getElem_cons_succ, List.getElem_cons_zero, List.setIfInBounds_toArray, List.set_cons_zero, List.set_cons_succ]
  first | (refine wpAnyH_take (i := 9) (v := undef) rfl ?_ ?_ ?_ (fun _ _ _ h => h) ?_ ?_ ?_; kernel_rfl; kernel_rfl; kernel_rfl; exact Or.inr ⟨by rfl, rfl⟩; exact hH) | (refine wpAnyH_take (i := 9) (v := ?_) rfl ?_ ?_ ?_ (fun _ _ _ h => h) ?_ ?_ ?_; rotate_left; kernel_rfl; kernel_rfl; kernel_rfl; (focus (refine Or.inl ⟨by rfl, ?_⟩; intro w' hSw; (try dsimp only at hSw); go_simp)); exact hH) | (refine wpAnyH_take (i := 9) (v := ?_) rfl ?_ ?_ ?_ (fun _ _ _ h => h) ?_ ?_ ?_; rotate_left; kernel_rfl; kernel_rfl; kernel_rfl; (focus (refine Or.inl ⟨by rfl, ?_⟩; intro w' hSw; (try dsimp only at hSw); go_simp; with_reducible rfl)); exact hH)
  try simp only [Act.put, List.getElem_toArray, List.getElem_cons_succ, List.getElem_cons_zero, List.setIfInBounds_toArray, List.set_cons_zero, List.set_cons_succ]
  refine wpAnyH_ready (rs := [10]) (by kernel_rfl) (by simp) ?_
  refine (AllReadyH.cons rfl (fun K hK => ?_) AllReadyH.nil)
  go_simp
  have NBb2 : Blk (w1.alloc (.cells #[.int .u64 k.1, .int .i64 k.2, .int .u64 v, .int .u64 (ofH k v).1, .int .i64 (ofH k v).2, .bool true, .pointer none, .pointer none] 138)) (w1.heap.size) 138 #[.int .u64 k.1, .int .i64 k.2, .int .u64 v, .int .u64 (ofH k v).1, .int .i64 (ofH k v).2, .bool true, .pointer none, .pointer none] := Blk.new_at (by simp)
  have QGNB : wa.heap.size ≤ w1.heap.size := Nat.le_trans (Below.size (hb1)) (Nat.le_of_eq (by simp))
  have hb2 := Below.alloc (hb1) (Below.size (hb1)) (.cells #[.int .u64 k.1, .int .i64 k.2, .int .u64 v, .int .u64 (ofH k v).1, .int .i64 (ofH k v).2, .bool true, .pointer none, .pointer none] 138)
  refine hK.out _ _ (KP.out _ hb2) (fun hH2 => ?_)
  clear hK K hH
  have hH := hH2
  clear hH2
  try simp only [Act.put, List.getElem_toArray, List.getElem_cons_succ, List.getElem_cons_zero, List.setIfInBounds_toArray, List.set_cons_zero, List.set_cons_succ]
  first | (refine wpAnyH_take (i := 11) (v := undef) rfl ?_ ?_ ?_ (fun _ _ _ h => h) ?_ ?_ ?_; kernel_rfl; kernel_rfl; kernel_rfl; exact Or.inr ⟨by rfl, rfl⟩; exact hH) | (refine wpAnyH_take (i := 11) (v := ?_) rfl ?_ ?_ ?_ (fun _ _ _ h => h) ?_ ?_ ?_; rotate_left; kernel_rfl; kernel_rfl; kernel_rfl; (focus (refine Or.inl ⟨by rfl, ?_⟩; intro w' hSw; (try dsimp only at hSw); go_simp)); exact hH) | (refine wpAnyH_take (i := 11) (v := ?_) rfl ?_ ?_ ?_ (fun _ _ _ h => h) ?_ ?_ ?_; rotate_left; kernel_rfl; kernel_rfl; kernel_rfl; (focus (refine Or.inl ⟨by rfl, ?_⟩; intro w' hSw; (try dsimp only at hSw); go_simp; with_reducible rfl)); exact hH)
  try simp only [Act.put, List.getElem_toArray, List.getElem_cons_succ, List.getElem_cons_zero, List.setIfInBounds_toArray, List.set_cons_zero, List.set_cons_succ]
  refine wpAnyH_done (by kernel_rfl) ?_ _
  refine NoPanic.normal ?_
  clear hH
  have NBb := NBb2
  have hbG := hb2
  have HY := Lib.hid (And.intro NBb (And.intro QGNB hbG))
  clear NBb QGNB hbG
  go_wp2_with fail
  go_ret
  have B3 := HB.out.trans (HY.out.2.2.mono HB.out.size)
  refine ⟨.node w1.heap.size true .nil k v (ofH k v) .nil, w1.heap.size, rfl, ?_⟩
  exact ⟨RB.put_nil, rfl, ⟨HY.out.1, trivial, trivial⟩, (Fr.of_new B3).mono fun j h1 h2 => by omega, List.Perm.refl _, Nat.le_trans HB.out.size HY.out.2.1, HT.out.below B3⟩
set_option maxHeartbeats 16000000 in
theorem rh_put_l (T : Nat) (k : RK) (v : Int) (b : Nat) (c : Bool) (l : RB (Int × Int)) (kk : RK) (vv : Int) (s : (Int × Int)) (r : RB (Int × Int)) (w : World) (n m : Nat) (h : RepH w (.node b c l kk vv s r)) (hn : (RB.blocks (.node b c l kk vv s r)).Nodup) (hT : TreH w T) (hTn : T ∉ RB.blocks (.node b c l kk vv s r)) (hk : klt k kk = true) (hR : Rises (RB.items (.node b c l kk vv s r)))
    (hr : r.red = false) (hc : c = true → l.red = false) (hlw : RB.W ofH minH l m) (hrw : RB.W ofH minH r m) (hnm : n = m + (if c then 0 else 1))
    (ih : ∀ (w : World), RepH w l → l.blocks.Nodup → TreH w T → T ∉ l.blocks → Calls Try.prog 108 #[.pointer (some ⟨T, 0, none⟩), .pointer (ptrO l), .agg #[.int .u64 k.1, .int .i64 k.2], .int .u64 v] w fun e w' => ∃ t' nb, e = .returned (.pointer (ptrO t')) ∧ PutH w w' T m k v l t' nb) :
    Calls Try.prog 108 #[.pointer (some ⟨T, 0, none⟩), .pointer (ptrO (.node b c l kk vv s r)), .agg #[.int .u64 k.1, .int .i64 k.2], .int .u64 v] w fun e w' => ∃ t' nb, e = .returned (.pointer (ptrO t')) ∧ PutH w w' T n k v (.node b c l kk vv s r) t' nb := by
  have hnd : (RB.blocks (.node b c l kk vv s r)).Nodup := hn
  simp only [RB.blocks, List.nodup_cons, List.mem_append, List.nodup_append, not_or] at hnd
  have HIH := Lib.hid ih
  have HH := Lib.hid (And.intro h (And.intro hn (And.intro hT hTn)))
  have HK := Lib.hid hk
  have HND := Lib.hid hnd
  have HP := Lib.hid (And.intro hR (And.intro hr (And.intro hc (And.intro hlw (And.intro hrw hnm)))))
  clear ih h hn hT hTn hk hnd hR hr hc hlw hrw hnm
  have e0 : (.pointer (ptrO (.node b c l kk vv s r)) : Value) = .pointer (some ⟨b, 0, none⟩) := rfl
  rw [e0]
  clear e0
  go_enter Try.func108, Try.ntmps108
  go_upto_region 4 with (fail)
  have hb0 : Below w.heap.size w (w.alloc (.cells #[.int .u64 k.1, .int .i64 k.2] 31)) := by go_grown
  have kb := Blk.new w 31 #[.int .u64 k.1, .int .i64 k.2]
  generalize w.alloc (.cells #[.int .u64 k.1, .int .i64 k.2] 31) = wa at hb0 kb ⊢
  have HB := Lib.hid (And.intro hb0 kb)
  clear hb0 kb
  have hbn : Blk wa b 138 #[.int .u64 kk.1, .int .i64 kk.2, .int .u64 vv, .int .u64 s.1, .int .i64 s.2, .bool c, ptrV l, ptrV r] := (show Blk w b 138 #[.int .u64 kk.1, .int .i64 kk.2, .int .u64 vv, .int .u64 s.1, .int .i64 s.2, .bool c, ptrV l, ptrV r] ∧ RepH w l ∧ RepH w r from HH.out.1).1.next HB.out.1
  have HBN := Lib.hid hbn
  clear hbn
  have KP : Hid (∀ w', Below (wa.heap.size) wa w' → (w'.cell? ⟨w.heap.size, 0, none⟩ = some (.int .u64 k.1) ∧ w'.cell? ⟨w.heap.size, 1, none⟩ = some (.int .i64 k.2) ∧ w'.cell? ⟨b, 0, none⟩ = some (.int .u64 kk.1) ∧ w'.cell? ⟨b, 1, none⟩ = some (.int .i64 kk.2)) ∧ Below (wa.heap.size) wa w') := fun w' hb => ⟨⟨(HB.out.2.next hb).get 0 rfl, (HB.out.2.next hb).get 1 rfl, (HBN.out.next hb).get 0 rfl, (HBN.out.next hb).get 1 rfl⟩, hb⟩
  refine wp_region_noPanic ?_
  refine wp_region_held_drew (S := fun w' => (w'.cell? ⟨w.heap.size, 0, none⟩ = some (.int .u64 k.1) ∧ w'.cell? ⟨w.heap.size, 1, none⟩ = some (.int .i64 k.2) ∧ w'.cell? ⟨b, 0, none⟩ = some (.int .u64 kk.1) ∧ w'.cell? ⟨b, 1, none⟩ = some (.int .i64 kk.2)) ∧ Below (wa.heap.size) wa w') (by kernel_rfl) (KP.out _ (below_of_drew ((Below.refl wa.heap.size wa)))) (fun hH => ?_)
  first | (refine wpAnyH_take (i := 0) (v := undef) rfl ?_ ?_ ?_ (fun _ _ _ h => h) ?_ ?_ ?_; kernel_rfl; kernel_rfl; kernel_rfl; exact Or.inr ⟨by rfl, rfl⟩; exact hH) | (refine wpAnyH_take (i := 0) (v := ?_) rfl ?_ ?_ ?_ (fun _ _ _ h => h) ?_ ?_ ?_; rotate_left; kernel_rfl; kernel_rfl; kernel_rfl; (focus (refine Or.inl ⟨by rfl, ?_⟩; intro w' hSw; (try dsimp only at hSw); go_simp)); exact hH) | (refine wpAnyH_take (i := 0) (v := ?_) rfl ?_ ?_ ?_ (fun _ _ _ h => h) ?_ ?_ ?_; rotate_left; kernel_rfl; kernel_rfl; kernel_rfl; (focus (refine Or.inl ⟨by rfl, ?_⟩; intro w' hSw; (try dsimp only at hSw); go_simp; with_reducible rfl)); exact hH)
  try simp only [Act.put, List.getElem_toArray, List.getElem_cons_succ, List.getElem_cons_zero, List.setIfInBounds_toArray, List.set_cons_zero, List.set_cons_succ]
  first | (refine wpAnyH_take (i := 1) (v := undef) rfl ?_ ?_ ?_ (fun _ _ _ h => h) ?_ ?_ ?_; kernel_rfl; kernel_rfl; kernel_rfl; exact Or.inr ⟨by rfl, rfl⟩; exact hH) | (refine wpAnyH_take (i := 1) (v := ?_) rfl ?_ ?_ ?_ (fun _ _ _ h => h) ?_ ?_ ?_; rotate_left; kernel_rfl; kernel_rfl; kernel_rfl; (focus (refine Or.inl ⟨by rfl, ?_⟩; intro w' hSw; (try dsimp only at hSw); go_simp)); exact hH) | (refine wpAnyH_take (i := 1) (v := ?_) rfl ?_ ?_ ?_ (fun _ _ _ h => h) ?_ ?_ ?_; rotate_left; kernel_rfl; kernel_rfl; kernel_rfl; (focus (refine Or.inl ⟨by rfl, ?_⟩; intro w' hSw; (try dsimp only at hSw); go_simp; with_reducible rfl)); exact hH)
  try simp only [Act.put, List.getElem_toArray, List.getElem_cons_succ, List.getElem_cons_zero, List.setIfInBounds_toArray, List.set_cons_zero, List.set_cons_succ]
  first | (refine wpAnyH_take (i := 2) (v := undef) rfl ?_ ?_ ?_ (fun _ _ _ h => h) ?_ ?_ ?_; kernel_rfl; kernel_rfl; kernel_rfl; exact Or.inr ⟨by rfl, rfl⟩; exact hH) | (refine wpAnyH_take (i := 2) (v := ?_) rfl ?_ ?_ ?_ (fun _ _ _ h => h) ?_ ?_ ?_; rotate_left; kernel_rfl; kernel_rfl; kernel_rfl; (focus (refine Or.inl ⟨by rfl, ?_⟩; intro w' hSw; (try dsimp only at hSw); go_simp)); exact hH) | (refine wpAnyH_take (i := 2) (v := ?_) rfl ?_ ?_ ?_ (fun _ _ _ h => h) ?_ ?_ ?_; rotate_left; kernel_rfl; kernel_rfl; kernel_rfl; (focus (refine Or.inl ⟨by rfl, ?_⟩; intro w' hSw; (try dsimp only at hSw); go_simp; with_reducible rfl)); exact hH)
  try simp only [Act.put, List.getElem_toArray, List.getElem_cons_succ, List.getElem_cons_zero, List.setIfInBounds_toArray, List.set_cons_zero, List.set_cons_succ]
  first | (refine wpAnyH_take (i := 3) (v := undef) rfl ?_ ?_ ?_ (fun _ _ _ h => h) ?_ ?_ ?_; kernel_rfl; kernel_rfl; kernel_rfl; exact Or.inr ⟨by rfl, rfl⟩; exact hH) | (refine wpAnyH_take (i := 3) (v := ?_) rfl ?_ ?_ ?_ (fun _ _ _ h => h) ?_ ?_ ?_; rotate_left; kernel_rfl; kernel_rfl; kernel_rfl; (focus (refine Or.inl ⟨by rfl, ?_⟩; intro w' hSw; (try dsimp only at hSw); go_simp)); exact hH) | (refine wpAnyH_take (i := 3) (v := ?_) rfl ?_ ?_ ?_ (fun _ _ _ h => h) ?_ ?_ ?_; rotate_left; kernel_rfl; kernel_rfl; kernel_rfl; (focus (refine Or.inl ⟨by rfl, ?_⟩; intro w' hSw; (try dsimp only at hSw); go_simp; with_reducible rfl)); exact hH)
  try simp only [Act.put, List.getElem_toArray, List.getElem_cons_succ, List.getElem_cons_zero, List.setIfInBounds_toArray, List.set_cons_zero, List.set_cons_succ]
  first | (refine wpAnyH_take (i := 4) (v := undef) rfl ?_ ?_ ?_ (fun _ _ _ h => h) ?_ ?_ ?_; kernel_rfl; kernel_rfl; kernel_rfl; exact Or.inr ⟨by rfl, rfl⟩; exact hH) | (refine wpAnyH_take (i := 4) (v := ?_) rfl ?_ ?_ ?_ (fun _ _ _ h => h) ?_ ?_ ?_; rotate_left; kernel_rfl; kernel_rfl; kernel_rfl; (focus (refine Or.inl ⟨by rfl, ?_⟩; intro w' hSw; (try dsimp only at hSw); go_simp)); exact hH) | (refine wpAnyH_take (i := 4) (v := ?_) rfl ?_ ?_ ?_ (fun _ _ _ h => h) ?_ ?_ ?_; rotate_left; kernel_rfl; kernel_rfl; kernel_rfl; (focus (refine Or.inl ⟨by rfl, ?_⟩; intro w' hSw; (try dsimp only at hSw); go_simp; with_reducible rfl)); exact hH)
  try simp only [Act.put, List.getElem_toArray, List.getElem_cons_succ, List.getElem_cons_zero, List.setIfInBounds_toArray, List.set_cons_zero, List.set_cons_succ]
  refine wpAnyH_ready (rs := [5]) (by kernel_rfl) (by simp) ?_
  refine AllReadyH.cons rfl (fun K hK => ?_) AllReadyH.nil
  go_simp
  with_reducible refine (rb_less k.1 k.2 kk.1 kk.2 _).mono ?_
  rintro e w1 ⟨rfl, hb1'⟩
  have hb1 : Below wa.heap.size wa w1 := below_next hH.2 hb1'
  try go_wp2_with fail
  refine hK.out _ _ (KP.out _ hb1) (fun hH1 => ?_)
  clear hK K hH
  have hH := hH1
  clear hH1
  try simp only [Act.put, List.getElem_toArray, List.getElem_cons_succ, List.getElem_cons_zero, List.setIfInBounds_toArray, List.set_cons_zero, List.set_cons_succ]
  first | (refine wpAnyH_take (i := 6) (v := undef) rfl ?_ ?_ ?_ (fun _ _ _ h => h) ?_ ?_ ?_; kernel_rfl; kernel_rfl; kernel_rfl; exact Or.inr ⟨by rfl, rfl⟩; exact hH) | (refine wpAnyH_take (i := 6) (v := ?_) rfl ?_ ?_ ?_ (fun _ _ _ h => h) ?_ ?_ ?_; rotate_left; kernel_rfl; kernel_rfl; kernel_rfl; (focus (refine Or.inl ⟨by rfl, ?_⟩; intro w' hSw; (try dsimp only at hSw); go_simp)); exact hH) | (refine wpAnyH_take (i := 6) (v := ?_) rfl ?_ ?_ ?_ (fun _ _ _ h => h) ?_ ?_ ?_; rotate_left; kernel_rfl; kernel_rfl; kernel_rfl; (focus (refine Or.inl ⟨by rfl, ?_⟩; intro w' hSw; (try dsimp only at hSw); go_simp; with_reducible rfl)); exact hH)
  try simp only [Act.put, List.getElem_toArray, List.getElem_cons_succ, List.getElem_cons_zero, List.setIfInBounds_toArray, List.set_cons_zero, List.set_cons_succ]
  refine wpAnyH_done (by kernel_rfl) ?_ _
  refine NoPanic.normal ?_
  clear hH
  rw [show klt (k.1, k.2) (kk.1, kk.2) = true from HK.out]
  have hb2 : Below w.heap.size w w1 := HB.out.1.trans (hb1.mono HB.out.1.size)
  have HW : Hid (RepH w1 (.node b c l kk vv s r) ∧ TreH w1 T ∧ Below w.heap.size w w1 ∧ Blk w1 w.heap.size 31 #[.int .u64 k.1, .int .i64 k.2]) := ⟨HH.out.1.below hb2, HH.out.2.2.1.below hb2, hb2, HB.out.2.next hb1⟩
  clear hb1 hb2 KP HBN HB
  go_upto_region 5 with (fail)
  have hbn : Blk w1 b 138 #[.int .u64 kk.1, .int .i64 kk.2, .int .u64 vv, .int .u64 s.1, .int .i64 s.2, .bool c, ptrV l, ptrV r] ∧ RepH w1 l ∧ RepH w1 r := HW.out.1
  have HBN := Lib.hid hbn
  have nkey : w.heap.size ∉ l.blocks := fun hx => by
    have := RepH.lt HH.out.1 w.heap.size (by simp only [RB.blocks, List.mem_cons, List.mem_append]; first | exact Or.inr (Or.inl hx) | exact Or.inr (Or.inr hx))
    omega
  have NKEY := Lib.hid nkey
  have NB : Hid (b ∉ l.blocks) := HND.out.1.1
  have TB : Hid (T ≠ b ∧ T ∉ l.blocks) := by
    have h := HH.out.2.2.2
    simp only [RB.blocks, List.mem_cons, List.mem_append, not_or] at h
    exact ⟨h.1, h.2.1⟩
  clear hbn nkey
  have KQ : Hid (∀ w', Fr ((fun j => j ∈ l.blocks)) w1 w' → (w'.cell? ⟨w.heap.size, 0, none⟩ = some (.int .u64 k.1) ∧ w'.cell? ⟨w.heap.size, 1, none⟩ = some (.int .i64 k.2) ∧ w'.cell? ⟨b, 6, none⟩ = some (.pointer (ptrO l))) ∧ Fr ((fun j => j ∈ l.blocks)) w1 w') := fun w' hb => ⟨⟨(HW.out.2.2.2.fr hb NKEY.out).get 0 rfl, (HW.out.2.2.2.fr hb NKEY.out).get 1 rfl, (by rw [← ptrV_eq]; exact (HBN.out.1.fr hb NB.out).get 6 rfl)⟩, hb⟩
  refine wp_region_noPanic ?_
  refine wp_region_Z [11] (fun w' => (w'.cell? ⟨w.heap.size, 0, none⟩ = some (.int .u64 k.1) ∧ w'.cell? ⟨w.heap.size, 1, none⟩ = some (.int .i64 k.2) ∧ w'.cell? ⟨b, 6, none⟩ = some (.pointer (ptrO l))) ∧ Fr ((fun j => j ∈ l.blocks)) w1 w') (by kernel_rfl) (KQ.out _ (Fr.drew ((Fr.refl (fun j => j ∈ l.blocks) w1)))) (fun hH => ?_)
  have hbR := Fr.drew ((Fr.refl (fun j => j ∈ l.blocks) w1))
  first | (refine wpAnyZ_take (i := 0) (v := undef) rfl ?_ ?_ ?_ ?_ (fun _ _ _ h => h) ?_ ?_ ?_; kernel_rfl; kernel_rfl; kernel_rfl; kernel_rfl; exact Or.inr ⟨by rfl, rfl⟩; exact hH) | (refine wpAnyZ_take (i := 0) (v := ?_) rfl ?_ ?_ ?_ ?_ (fun _ _ _ h => h) ?_ ?_ ?_; rotate_left; kernel_rfl; kernel_rfl; kernel_rfl; kernel_rfl; (focus (refine Or.inl ⟨by rfl, ?_⟩; intro w' hSw; (try dsimp only at hSw); go_simp)); exact hH) | (refine wpAnyZ_take (i := 0) (v := ?_) rfl ?_ ?_ ?_ ?_ (fun _ _ _ h => h) ?_ ?_ ?_; rotate_left; kernel_rfl; kernel_rfl; kernel_rfl; kernel_rfl; (focus (refine Or.inl ⟨by rfl, ?_⟩; intro w' hSw; (try dsimp only at hSw); go_simp; with_reducible rfl)); exact hH)
  try simp only [Act.put, List.getElem_toArray, List.getElem_cons_succ, List.getElem_cons_zero, List.setIfInBounds_toArray, List.set_cons_zero, List.set_cons_succ]
  first | (refine wpAnyZ_take (i := 1) (v := undef) rfl ?_ ?_ ?_ ?_ (fun _ _ _ h => h) ?_ ?_ ?_; kernel_rfl; kernel_rfl; kernel_rfl; kernel_rfl; exact Or.inr ⟨by rfl, rfl⟩; exact hH) | (refine wpAnyZ_take (i := 1) (v := ?_) rfl ?_ ?_ ?_ ?_ (fun _ _ _ h => h) ?_ ?_ ?_; rotate_left; kernel_rfl; kernel_rfl; kernel_rfl; kernel_rfl; (focus (refine Or.inl ⟨by rfl, ?_⟩; intro w' hSw; (try dsimp only at hSw); go_simp)); exact hH) | (refine wpAnyZ_take (i := 1) (v := ?_) rfl ?_ ?_ ?_ ?_ (fun _ _ _ h => h) ?_ ?_ ?_; rotate_left; kernel_rfl; kernel_rfl; kernel_rfl; kernel_rfl; (focus (refine Or.inl ⟨by rfl, ?_⟩; intro w' hSw; (try dsimp only at hSw); go_simp; with_reducible rfl)); exact hH)
  try simp only [Act.put, List.getElem_toArray, List.getElem_cons_succ, List.getElem_cons_zero, List.setIfInBounds_toArray, List.set_cons_zero, List.set_cons_succ]
  first | (refine wpAnyZ_take (i := 2) (v := undef) rfl ?_ ?_ ?_ ?_ (fun _ _ _ h => h) ?_ ?_ ?_; kernel_rfl; kernel_rfl; kernel_rfl; kernel_rfl; exact Or.inr ⟨by rfl, rfl⟩; exact hH) | (refine wpAnyZ_take (i := 2) (v := ?_) rfl ?_ ?_ ?_ ?_ (fun _ _ _ h => h) ?_ ?_ ?_; rotate_left; kernel_rfl; kernel_rfl; kernel_rfl; kernel_rfl; (focus (refine Or.inl ⟨by rfl, ?_⟩; intro w' hSw; (try dsimp only at hSw); go_simp)); exact hH) | (refine wpAnyZ_take (i := 2) (v := ?_) rfl ?_ ?_ ?_ ?_ (fun _ _ _ h => h) ?_ ?_ ?_; rotate_left; kernel_rfl; kernel_rfl; kernel_rfl; kernel_rfl; (focus (refine Or.inl ⟨by rfl, ?_⟩; intro w' hSw; (try dsimp only at hSw); go_simp; with_reducible rfl)); exact hH)
  try simp only [Act.put, List.getElem_toArray, List.getElem_cons_succ, List.getElem_cons_zero, List.setIfInBounds_toArray, List.set_cons_zero, List.set_cons_succ]
  first | (refine wpAnyZ_take (i := 3) (v := undef) rfl ?_ ?_ ?_ ?_ (fun _ _ _ h => h) ?_ ?_ ?_; kernel_rfl; kernel_rfl; kernel_rfl; kernel_rfl; exact Or.inr ⟨by rfl, rfl⟩; exact hH) | (refine wpAnyZ_take (i := 3) (v := ?_) rfl ?_ ?_ ?_ ?_ (fun _ _ _ h => h) ?_ ?_ ?_; rotate_left; kernel_rfl; kernel_rfl; kernel_rfl; kernel_rfl; (focus (refine Or.inl ⟨by rfl, ?_⟩; intro w' hSw; (try dsimp only at hSw); go_simp)); exact hH) | (refine wpAnyZ_take (i := 3) (v := ?_) rfl ?_ ?_ ?_ ?_ (fun _ _ _ h => h) ?_ ?_ ?_; rotate_left; kernel_rfl; kernel_rfl; kernel_rfl; kernel_rfl; (focus (refine Or.inl ⟨by rfl, ?_⟩; intro w' hSw; (try dsimp only at hSw); go_simp; with_reducible rfl)); exact hH)
  try simp only [Act.put, List.getElem_toArray, List.getElem_cons_succ, List.getElem_cons_zero, List.setIfInBounds_toArray, List.set_cons_zero, List.set_cons_succ]
  first | (refine wpAnyZ_take (i := 4) (v := undef) rfl ?_ ?_ ?_ ?_ (fun _ _ _ h => h) ?_ ?_ ?_; kernel_rfl; kernel_rfl; kernel_rfl; kernel_rfl; exact Or.inr ⟨by rfl, rfl⟩; exact hH) | (refine wpAnyZ_take (i := 4) (v := ?_) rfl ?_ ?_ ?_ ?_ (fun _ _ _ h => h) ?_ ?_ ?_; rotate_left; kernel_rfl; kernel_rfl; kernel_rfl; kernel_rfl; (focus (refine Or.inl ⟨by rfl, ?_⟩; intro w' hSw; (try dsimp only at hSw); go_simp)); exact hH) | (refine wpAnyZ_take (i := 4) (v := ?_) rfl ?_ ?_ ?_ ?_ (fun _ _ _ h => h) ?_ ?_ ?_; rotate_left; kernel_rfl; kernel_rfl; kernel_rfl; kernel_rfl; (focus (refine Or.inl ⟨by rfl, ?_⟩; intro w' hSw; (try dsimp only at hSw); go_simp; with_reducible rfl)); exact hH)
  try simp only [Act.put, List.getElem_toArray, List.getElem_cons_succ, List.getElem_cons_zero, List.setIfInBounds_toArray, List.set_cons_zero, List.set_cons_succ]
  first | (refine wpAnyZ_take (i := 5) (v := undef) rfl ?_ ?_ ?_ ?_ (fun _ _ _ h => h) ?_ ?_ ?_; kernel_rfl; kernel_rfl; kernel_rfl; kernel_rfl; exact Or.inr ⟨by rfl, rfl⟩; exact hH) | (refine wpAnyZ_take (i := 5) (v := ?_) rfl ?_ ?_ ?_ ?_ (fun _ _ _ h => h) ?_ ?_ ?_; rotate_left; kernel_rfl; kernel_rfl; kernel_rfl; kernel_rfl; (focus (refine Or.inl ⟨by rfl, ?_⟩; intro w' hSw; (try dsimp only at hSw); go_simp)); exact hH) | (refine wpAnyZ_take (i := 5) (v := ?_) rfl ?_ ?_ ?_ ?_ (fun _ _ _ h => h) ?_ ?_ ?_; rotate_left; kernel_rfl; kernel_rfl; kernel_rfl; kernel_rfl; (focus (refine Or.inl ⟨by rfl, ?_⟩; intro w' hSw; (try dsimp only at hSw); go_simp; with_reducible rfl)); exact hH)
  try simp only [Act.put, List.getElem_toArray, List.getElem_cons_succ, List.getElem_cons_zero, List.setIfInBounds_toArray, List.set_cons_zero, List.set_cons_succ]
  first | (refine wpAnyZ_take (i := 6) (v := undef) rfl ?_ ?_ ?_ ?_ (fun _ _ _ h => h) ?_ ?_ ?_; kernel_rfl; kernel_rfl; kernel_rfl; kernel_rfl; exact Or.inr ⟨by rfl, rfl⟩; exact hH) | (refine wpAnyZ_take (i := 6) (v := ?_) rfl ?_ ?_ ?_ ?_ (fun _ _ _ h => h) ?_ ?_ ?_; rotate_left; kernel_rfl; kernel_rfl; kernel_rfl; kernel_rfl; (focus (refine Or.inl ⟨by rfl, ?_⟩; intro w' hSw; (try dsimp only at hSw); go_simp)); exact hH) | (refine wpAnyZ_take (i := 6) (v := ?_) rfl ?_ ?_ ?_ ?_ (fun _ _ _ h => h) ?_ ?_ ?_; rotate_left; kernel_rfl; kernel_rfl; kernel_rfl; kernel_rfl; (focus (refine Or.inl ⟨by rfl, ?_⟩; intro w' hSw; (try dsimp only at hSw); go_simp; with_reducible rfl)); exact hH)
  try simp only [Act.put, List.getElem_toArray, List.getElem_cons_succ, List.getElem_cons_zero, List.setIfInBounds_toArray, List.set_cons_zero, List.set_cons_succ]
  first | (refine wpAnyZ_take (i := 7) (v := undef) rfl ?_ ?_ ?_ ?_ (fun _ _ _ h => h) ?_ ?_ ?_; kernel_rfl; kernel_rfl; kernel_rfl; kernel_rfl; exact Or.inr ⟨by rfl, rfl⟩; exact hH) | (refine wpAnyZ_take (i := 7) (v := ?_) rfl ?_ ?_ ?_ ?_ (fun _ _ _ h => h) ?_ ?_ ?_; rotate_left; kernel_rfl; kernel_rfl; kernel_rfl; kernel_rfl; (focus (refine Or.inl ⟨by rfl, ?_⟩; intro w' hSw; (try dsimp only at hSw); go_simp)); exact hH) | (refine wpAnyZ_take (i := 7) (v := ?_) rfl ?_ ?_ ?_ ?_ (fun _ _ _ h => h) ?_ ?_ ?_; rotate_left; kernel_rfl; kernel_rfl; kernel_rfl; kernel_rfl; (focus (refine Or.inl ⟨by rfl, ?_⟩; intro w' hSw; (try dsimp only at hSw); go_simp; with_reducible rfl)); exact hH)
  try simp only [Act.put, List.getElem_toArray, List.getElem_cons_succ, List.getElem_cons_zero, List.setIfInBounds_toArray, List.set_cons_zero, List.set_cons_succ]
  refine wpAnyZ_ready (rs := [8]) (by kernel_rfl) (by simp) ?_
  refine (AllReadyZ.cons rfl (fun K hK => ?_) AllReadyZ.nil)
  go_simp
  with_reducible refine (HIH.out w1.drew (HBN.out.2.1.below (below_of_drew (Below.refl _ _))) HND.out.2.1 (HW.out.2.1.below (below_of_drew (Below.refl _ _))) TB.out.2).mono ?_
  rintro e w2 ⟨t', nb, rfl, hp⟩
  have fr2 : Fr (fun j => j ∈ l.blocks) w1 w2 := hH.2.trans hp.fr
  have bk2 := HBN.out.1.fr fr2 NB.out
  have HPK := Lib.hid (And.intro hp (And.intro fr2 bk2))
  have ff2 := bk2.frozen 6
  have cc2 : w2.cell? ⟨b, 6, none⟩ = some (.pointer (ptrO l)) := by rw [← ptrV_eq]; exact bk2.get 6 rfl
  clear hp bk2
  try go_wp2_with fail
  have hH2 := KQ.out _ fr2
  refine hK.out _ _ (fun _ => hH2) ?_
  clear hK K hH
  have hH := hH2
  clear hH2
  try simp only [Act.put, List.getElem_toArray, List.getElem_cons_succ, List.getElem_cons_zero, List.setIfInBounds_toArray, List.set_cons_zero, List.set_cons_succ]
  refine wpAnyZ_ready (rs := [9]) (by kernel_rfl) (by simp) ?_
  refine (AllReadyZ.cons rfl (fun K hK => ?_) AllReadyZ.nil)
  go_simp
  refine hK.out _ _ (fun _ => hH) ?_
  clear hK K
  try simp only [Act.put, List.getElem_toArray, List.getElem_cons_succ, List.getElem_cons_zero, List.setIfInBounds_toArray, List.set_cons_zero, List.set_cons_succ]
  first | (refine wpAnyZ_take (i := 10) (v := undef) rfl ?_ ?_ ?_ ?_ (fun _ _ _ h => h) ?_ ?_ ?_; kernel_rfl; kernel_rfl; kernel_rfl; kernel_rfl; exact Or.inr ⟨by rfl, rfl⟩; exact hH) | (refine wpAnyZ_take (i := 10) (v := ?_) rfl ?_ ?_ ?_ ?_ (fun _ _ _ h => h) ?_ ?_ ?_; rotate_left; kernel_rfl; kernel_rfl; kernel_rfl; kernel_rfl; (focus (refine Or.inl ⟨by rfl, ?_⟩; intro w' hSw; (try dsimp only at hSw); go_simp)); exact hH) | (refine wpAnyZ_take (i := 10) (v := ?_) rfl ?_ ?_ ?_ ?_ (fun _ _ _ h => h) ?_ ?_ ?_; rotate_left; kernel_rfl; kernel_rfl; kernel_rfl; kernel_rfl; (focus (refine Or.inl ⟨by rfl, ?_⟩; intro w' hSw; (try dsimp only at hSw); go_simp; with_reducible rfl)); exact hH)
  try simp only [Act.put, List.getElem_toArray, List.getElem_cons_succ, List.getElem_cons_zero, List.setIfInBounds_toArray, List.set_cons_zero, List.set_cons_succ]
  refine wpAnyZ_ready (rs := [11]) (by kernel_rfl) (by simp) ?_
  refine (AllReadyZ.cons rfl (fun K hK => ?_) AllReadyZ.nil)
  go_simp
  refine hK.out _ _ (fun h => absurd (by simp) h) ?_
  clear hK K
  try simp only [Act.put, List.getElem_toArray, List.getElem_cons_succ, List.getElem_cons_zero, List.setIfInBounds_toArray, List.set_cons_zero, List.set_cons_succ]
  refine wpAnyZ_done (by kernel_rfl) ?_ _
  refine NoPanic.normal ?_
  skip
  clear ff2 cc2 fr2 KQ
  obtain ⟨hp, fr2, bk2⟩ := HPK.out
  have F3 : Fr (fun j => j = b) w2 (w2.setCell ⟨b, 6, none⟩ (.pointer (ptrO t'))) := (Fr.refl (fun j => j = b) w2).setCell (p := ⟨b, 6, none⟩) (fun _ => rfl) _
  have hperm : List.Perm (RB.blocks (.node b c t' kk vv s r)) (nb :: RB.blocks (.node b c l kk vv s r)) := blocks_left hp.perm
  have hnb : w.heap.size ≤ nb := Nat.le_trans HW.out.2.2.1.size hp.ge
  have hlt := RepH.lt HH.out.1
  have hnd3 : (nb :: RB.blocks (.node b c l kk vv s r)).Nodup := List.nodup_cons.2 ⟨fun hx => by have := hlt nb hx; omega, HH.out.2.1⟩
  have hnd4 := hperm.nodup_iff.2 hnd3
  have hT3 : T ∉ RB.blocks (.node b c t' kk vv s r) := fun hx => by
    rcases List.mem_cons.1 (hperm.mem_iff.1 hx) with e | hx
    · have : T < w.heap.size := by obtain ⟨cs, h1, _⟩ := HH.out.2.2.1; exact h1.lt
      omega
    · exact HH.out.2.2.2 hx
  have hbt : b ∉ t'.blocks := by
    have h := hnd4
    simp only [RB.blocks, List.nodup_cons, List.mem_append, not_or] at h
    exact h.1.1
  have hR3 : RepH (w2.setCell ⟨b, 6, none⟩ (.pointer (ptrO t'))) (.node b c t' kk vv s r) := by
    have h1 := bk2.put 6 (.pointer (ptrO t'))
    have h2 := RepH.fr F3 hp.rep (fun x hx e => hbt (e ▸ hx))
    have h3 := RepH.fr F3 (RepH.fr fr2 HBN.out.2.2 (fun x hx hx2 => HND.out.2.2.2 x hx2 x hx rfl)) (fun x hx e => HND.out.1.2 (e ▸ hx))
    refine ⟨?_, h2, h3⟩
    rw [ptrV_eq t']
    exact h1
  have hTr := hp.tre.fr F3 TB.out.1
  have HQ := Lib.hid (And.intro hR3 (And.intro hnd4 (And.intro hTr (And.intro hT3 (And.intro F3 (And.intro fr2 (And.intro hp (And.intro hperm hnb))))))))
  clear hp fr2 bk2 F3 hperm hnb hlt hnd3 hnd4 hT3 hbt hR3 hTr HPK
  generalize w2.setCell ⟨b, 6, none⟩ (.pointer (ptrO t')) = w3 at HQ ⊢
  go_wp2_with fail
  with_reducible refine (rh_balance T b c t' kk vv s r w3 HQ.out.1 HQ.out.2.1 HQ.out.2.2.1 HQ.out.2.2.2.1).mono ?_
  rintro e w4 ⟨rfl, hS⟩
  have HS4 := Lib.hid hS
  clear hS
  go_wp2_with fail
  go_ret
  obtain ⟨_, _, _, _, F3, fr2, hp, hperm, hnb⟩ := HQ.out
  have hS := HS4.out
  refine ⟨RB.bal ofH minH (.node b c t' kk vv s r), nb, by rw [ptrV_eq]; rfl, ?_⟩
  have FA : Fr (fun j => j ∈ nb :: RB.blocks (.node b c l kk vv s r)) w w4 := by
    refine (Fr.of_new HW.out.2.2.1).trans ((fr2.mono fun j _ hj => ?_).trans ((F3.mono fun j _ hj => ?_).trans (hS.fr.mono fun j _ hj => hperm.mem_iff.1 hj)))
    · simp only [RB.blocks, List.mem_cons, List.mem_append]; first | exact Or.inr (Or.inr (Or.inl hj)) | exact Or.inr (Or.inr (Or.inr hj))
    · simp only [RB.blocks, List.mem_cons, List.mem_append]; exact Or.inr (Or.inl hj)
  refine ⟨RB.put_left HP.out.2.1 HP.out.2.2.1 hp.post HP.out.2.2.2.2.1 HP.out.2.2.2.2.2, ?_, hS.rep, FA.mono fun j h1 hj => ?_, hS.perm.trans hperm, hnb, hS.tre⟩
  · rw [RB.items_bal]
    simp only [RB.items]
    rw [hp.items]
    exact (ins_left (p := (kk, vv)) _ HK.out _).symm
  · rcases List.mem_cons.1 hj with rfl | hj
    · omega
    · exact hj
set_option maxHeartbeats 16000000 in
theorem rh_put_r (T : Nat) (k : RK) (v : Int) (b : Nat) (c : Bool) (l : RB (Int × Int)) (kk : RK) (vv : Int) (s : (Int × Int)) (r : RB (Int × Int)) (w : World) (n m : Nat) (h : RepH w (.node b c l kk vv s r)) (hn : (RB.blocks (.node b c l kk vv s r)).Nodup) (hT : TreH w T) (hTn : T ∉ RB.blocks (.node b c l kk vv s r)) (hk : klt k kk = false) (hR : Rises (RB.items (.node b c l kk vv s r)))
    (hr : r.red = false) (hc : c = true → l.red = false) (hlw : RB.W ofH minH l m) (hrw : RB.W ofH minH r m) (hnm : n = m + (if c then 0 else 1))
    (ih : ∀ (w : World), RepH w r → r.blocks.Nodup → TreH w T → T ∉ r.blocks → Calls Try.prog 108 #[.pointer (some ⟨T, 0, none⟩), .pointer (ptrO r), .agg #[.int .u64 k.1, .int .i64 k.2], .int .u64 v] w fun e w' => ∃ t' nb, e = .returned (.pointer (ptrO t')) ∧ PutH w w' T m k v r t' nb) :
    Calls Try.prog 108 #[.pointer (some ⟨T, 0, none⟩), .pointer (ptrO (.node b c l kk vv s r)), .agg #[.int .u64 k.1, .int .i64 k.2], .int .u64 v] w fun e w' => ∃ t' nb, e = .returned (.pointer (ptrO t')) ∧ PutH w w' T n k v (.node b c l kk vv s r) t' nb := by
  have hnd : (RB.blocks (.node b c l kk vv s r)).Nodup := hn
  simp only [RB.blocks, List.nodup_cons, List.mem_append, List.nodup_append, not_or] at hnd
  have HIH := Lib.hid ih
  have HH := Lib.hid (And.intro h (And.intro hn (And.intro hT hTn)))
  have HK := Lib.hid hk
  have HND := Lib.hid hnd
  have HP := Lib.hid (And.intro hR (And.intro hr (And.intro hc (And.intro hlw (And.intro hrw hnm)))))
  clear ih h hn hT hTn hk hnd hR hr hc hlw hrw hnm
  have e0 : (.pointer (ptrO (.node b c l kk vv s r)) : Value) = .pointer (some ⟨b, 0, none⟩) := rfl
  rw [e0]
  clear e0
  go_enter Try.func108, Try.ntmps108
  go_upto_region 4 with (fail)
  have hb0 : Below w.heap.size w (w.alloc (.cells #[.int .u64 k.1, .int .i64 k.2] 31)) := by go_grown
  have kb := Blk.new w 31 #[.int .u64 k.1, .int .i64 k.2]
  generalize w.alloc (.cells #[.int .u64 k.1, .int .i64 k.2] 31) = wa at hb0 kb ⊢
  have HB := Lib.hid (And.intro hb0 kb)
  clear hb0 kb
  have hbn : Blk wa b 138 #[.int .u64 kk.1, .int .i64 kk.2, .int .u64 vv, .int .u64 s.1, .int .i64 s.2, .bool c, ptrV l, ptrV r] := (show Blk w b 138 #[.int .u64 kk.1, .int .i64 kk.2, .int .u64 vv, .int .u64 s.1, .int .i64 s.2, .bool c, ptrV l, ptrV r] ∧ RepH w l ∧ RepH w r from HH.out.1).1.next HB.out.1
  have HBN := Lib.hid hbn
  clear hbn
  have KP : Hid (∀ w', Below (wa.heap.size) wa w' → (w'.cell? ⟨w.heap.size, 0, none⟩ = some (.int .u64 k.1) ∧ w'.cell? ⟨w.heap.size, 1, none⟩ = some (.int .i64 k.2) ∧ w'.cell? ⟨b, 0, none⟩ = some (.int .u64 kk.1) ∧ w'.cell? ⟨b, 1, none⟩ = some (.int .i64 kk.2)) ∧ Below (wa.heap.size) wa w') := fun w' hb => ⟨⟨(HB.out.2.next hb).get 0 rfl, (HB.out.2.next hb).get 1 rfl, (HBN.out.next hb).get 0 rfl, (HBN.out.next hb).get 1 rfl⟩, hb⟩
  refine wp_region_noPanic ?_
  refine wp_region_held_drew (S := fun w' => (w'.cell? ⟨w.heap.size, 0, none⟩ = some (.int .u64 k.1) ∧ w'.cell? ⟨w.heap.size, 1, none⟩ = some (.int .i64 k.2) ∧ w'.cell? ⟨b, 0, none⟩ = some (.int .u64 kk.1) ∧ w'.cell? ⟨b, 1, none⟩ = some (.int .i64 kk.2)) ∧ Below (wa.heap.size) wa w') (by kernel_rfl) (KP.out _ (below_of_drew ((Below.refl wa.heap.size wa)))) (fun hH => ?_)
  first | (refine wpAnyH_take (i := 0) (v := undef) rfl ?_ ?_ ?_ (fun _ _ _ h => h) ?_ ?_ ?_; kernel_rfl; kernel_rfl; kernel_rfl; exact Or.inr ⟨by rfl, rfl⟩; exact hH) | (refine wpAnyH_take (i := 0) (v := ?_) rfl ?_ ?_ ?_ (fun _ _ _ h => h) ?_ ?_ ?_; rotate_left; kernel_rfl; kernel_rfl; kernel_rfl; (focus (refine Or.inl ⟨by rfl, ?_⟩; intro w' hSw; (try dsimp only at hSw); go_simp)); exact hH) | (refine wpAnyH_take (i := 0) (v := ?_) rfl ?_ ?_ ?_ (fun _ _ _ h => h) ?_ ?_ ?_; rotate_left; kernel_rfl; kernel_rfl; kernel_rfl; (focus (refine Or.inl ⟨by rfl, ?_⟩; intro w' hSw; (try dsimp only at hSw); go_simp; with_reducible rfl)); exact hH)
  try simp only [Act.put, List.getElem_toArray, List.getElem_cons_succ, List.getElem_cons_zero, List.setIfInBounds_toArray, List.set_cons_zero, List.set_cons_succ]
  first | (refine wpAnyH_take (i := 1) (v := undef) rfl ?_ ?_ ?_ (fun _ _ _ h => h) ?_ ?_ ?_; kernel_rfl; kernel_rfl; kernel_rfl; exact Or.inr ⟨by rfl, rfl⟩; exact hH) | (refine wpAnyH_take (i := 1) (v := ?_) rfl ?_ ?_ ?_ (fun _ _ _ h => h) ?_ ?_ ?_; rotate_left; kernel_rfl; kernel_rfl; kernel_rfl; (focus (refine Or.inl ⟨by rfl, ?_⟩; intro w' hSw; (try dsimp only at hSw); go_simp)); exact hH) | (refine wpAnyH_take (i := 1) (v := ?_) rfl ?_ ?_ ?_ (fun _ _ _ h => h) ?_ ?_ ?_; rotate_left; kernel_rfl; kernel_rfl; kernel_rfl; (focus (refine Or.inl ⟨by rfl, ?_⟩; intro w' hSw; (try dsimp only at hSw); go_simp; with_reducible rfl)); exact hH)
  try simp only [Act.put, List.getElem_toArray, List.getElem_cons_succ, List.getElem_cons_zero, List.setIfInBounds_toArray, List.set_cons_zero, List.set_cons_succ]
  first | (refine wpAnyH_take (i := 2) (v := undef) rfl ?_ ?_ ?_ (fun _ _ _ h => h) ?_ ?_ ?_; kernel_rfl; kernel_rfl; kernel_rfl; exact Or.inr ⟨by rfl, rfl⟩; exact hH) | (refine wpAnyH_take (i := 2) (v := ?_) rfl ?_ ?_ ?_ (fun _ _ _ h => h) ?_ ?_ ?_; rotate_left; kernel_rfl; kernel_rfl; kernel_rfl; (focus (refine Or.inl ⟨by rfl, ?_⟩; intro w' hSw; (try dsimp only at hSw); go_simp)); exact hH) | (refine wpAnyH_take (i := 2) (v := ?_) rfl ?_ ?_ ?_ (fun _ _ _ h => h) ?_ ?_ ?_; rotate_left; kernel_rfl; kernel_rfl; kernel_rfl; (focus (refine Or.inl ⟨by rfl, ?_⟩; intro w' hSw; (try dsimp only at hSw); go_simp; with_reducible rfl)); exact hH)
  try simp only [Act.put, List.getElem_toArray, List.getElem_cons_succ, List.getElem_cons_zero, List.setIfInBounds_toArray, List.set_cons_zero, List.set_cons_succ]
  first | (refine wpAnyH_take (i := 3) (v := undef) rfl ?_ ?_ ?_ (fun _ _ _ h => h) ?_ ?_ ?_; kernel_rfl; kernel_rfl; kernel_rfl; exact Or.inr ⟨by rfl, rfl⟩; exact hH) | (refine wpAnyH_take (i := 3) (v := ?_) rfl ?_ ?_ ?_ (fun _ _ _ h => h) ?_ ?_ ?_; rotate_left; kernel_rfl; kernel_rfl; kernel_rfl; (focus (refine Or.inl ⟨by rfl, ?_⟩; intro w' hSw; (try dsimp only at hSw); go_simp)); exact hH) | (refine wpAnyH_take (i := 3) (v := ?_) rfl ?_ ?_ ?_ (fun _ _ _ h => h) ?_ ?_ ?_; rotate_left; kernel_rfl; kernel_rfl; kernel_rfl; (focus (refine Or.inl ⟨by rfl, ?_⟩; intro w' hSw; (try dsimp only at hSw); go_simp; with_reducible rfl)); exact hH)
  try simp only [Act.put, List.getElem_toArray, List.getElem_cons_succ, List.getElem_cons_zero, List.setIfInBounds_toArray, List.set_cons_zero, List.set_cons_succ]
  first | (refine wpAnyH_take (i := 4) (v := undef) rfl ?_ ?_ ?_ (fun _ _ _ h => h) ?_ ?_ ?_; kernel_rfl; kernel_rfl; kernel_rfl; exact Or.inr ⟨by rfl, rfl⟩; exact hH) | (refine wpAnyH_take (i := 4) (v := ?_) rfl ?_ ?_ ?_ (fun _ _ _ h => h) ?_ ?_ ?_; rotate_left; kernel_rfl; kernel_rfl; kernel_rfl; (focus (refine Or.inl ⟨by rfl, ?_⟩; intro w' hSw; (try dsimp only at hSw); go_simp)); exact hH) | (refine wpAnyH_take (i := 4) (v := ?_) rfl ?_ ?_ ?_ (fun _ _ _ h => h) ?_ ?_ ?_; rotate_left; kernel_rfl; kernel_rfl; kernel_rfl; (focus (refine Or.inl ⟨by rfl, ?_⟩; intro w' hSw; (try dsimp only at hSw); go_simp; with_reducible rfl)); exact hH)
  try simp only [Act.put, List.getElem_toArray, List.getElem_cons_succ, List.getElem_cons_zero, List.setIfInBounds_toArray, List.set_cons_zero, List.set_cons_succ]
  refine wpAnyH_ready (rs := [5]) (by kernel_rfl) (by simp) ?_
  refine AllReadyH.cons rfl (fun K hK => ?_) AllReadyH.nil
  go_simp
  with_reducible refine (rb_less k.1 k.2 kk.1 kk.2 _).mono ?_
  rintro e w1 ⟨rfl, hb1'⟩
  have hb1 : Below wa.heap.size wa w1 := below_next hH.2 hb1'
  try go_wp2_with fail
  refine hK.out _ _ (KP.out _ hb1) (fun hH1 => ?_)
  clear hK K hH
  have hH := hH1
  clear hH1
  try simp only [Act.put, List.getElem_toArray, List.getElem_cons_succ, List.getElem_cons_zero, List.setIfInBounds_toArray, List.set_cons_zero, List.set_cons_succ]
  first | (refine wpAnyH_take (i := 6) (v := undef) rfl ?_ ?_ ?_ (fun _ _ _ h => h) ?_ ?_ ?_; kernel_rfl; kernel_rfl; kernel_rfl; exact Or.inr ⟨by rfl, rfl⟩; exact hH) | (refine wpAnyH_take (i := 6) (v := ?_) rfl ?_ ?_ ?_ (fun _ _ _ h => h) ?_ ?_ ?_; rotate_left; kernel_rfl; kernel_rfl; kernel_rfl; (focus (refine Or.inl ⟨by rfl, ?_⟩; intro w' hSw; (try dsimp only at hSw); go_simp)); exact hH) | (refine wpAnyH_take (i := 6) (v := ?_) rfl ?_ ?_ ?_ (fun _ _ _ h => h) ?_ ?_ ?_; rotate_left; kernel_rfl; kernel_rfl; kernel_rfl; (focus (refine Or.inl ⟨by rfl, ?_⟩; intro w' hSw; (try dsimp only at hSw); go_simp; with_reducible rfl)); exact hH)
  try simp only [Act.put, List.getElem_toArray, List.getElem_cons_succ, List.getElem_cons_zero, List.setIfInBounds_toArray, List.set_cons_zero, List.set_cons_succ]
  refine wpAnyH_done (by kernel_rfl) ?_ _
  refine NoPanic.normal ?_
  clear hH
  rw [show klt (k.1, k.2) (kk.1, kk.2) = false from HK.out]
  have hb2 : Below w.heap.size w w1 := HB.out.1.trans (hb1.mono HB.out.1.size)
  have HW : Hid (RepH w1 (.node b c l kk vv s r) ∧ TreH w1 T ∧ Below w.heap.size w w1 ∧ Blk w1 w.heap.size 31 #[.int .u64 k.1, .int .i64 k.2]) := ⟨HH.out.1.below hb2, HH.out.2.2.1.below hb2, hb2, HB.out.2.next hb1⟩
  clear hb1 hb2 KP HBN HB
  go_upto_region 1 with (fail)
  have hbn : Blk w1 b 138 #[.int .u64 kk.1, .int .i64 kk.2, .int .u64 vv, .int .u64 s.1, .int .i64 s.2, .bool c, ptrV l, ptrV r] ∧ RepH w1 l ∧ RepH w1 r := HW.out.1
  have HBN := Lib.hid hbn
  have nkey : w.heap.size ∉ r.blocks := fun hx => by
    have := RepH.lt HH.out.1 w.heap.size (by simp only [RB.blocks, List.mem_cons, List.mem_append]; first | exact Or.inr (Or.inl hx) | exact Or.inr (Or.inr hx))
    omega
  have NKEY := Lib.hid nkey
  have NB : Hid (b ∉ r.blocks) := HND.out.1.2
  have TB : Hid (T ≠ b ∧ T ∉ r.blocks) := by
    have h := HH.out.2.2.2
    simp only [RB.blocks, List.mem_cons, List.mem_append, not_or] at h
    exact ⟨h.1, h.2.2⟩
  clear hbn nkey
  have KQ : Hid (∀ w', Fr ((fun j => j ∈ r.blocks)) w1 w' → (w'.cell? ⟨w.heap.size, 0, none⟩ = some (.int .u64 k.1) ∧ w'.cell? ⟨w.heap.size, 1, none⟩ = some (.int .i64 k.2) ∧ w'.cell? ⟨b, 7, none⟩ = some (.pointer (ptrO r))) ∧ Fr ((fun j => j ∈ r.blocks)) w1 w') := fun w' hb => ⟨⟨(HW.out.2.2.2.fr hb NKEY.out).get 0 rfl, (HW.out.2.2.2.fr hb NKEY.out).get 1 rfl, (by rw [← ptrV_eq]; exact (HBN.out.1.fr hb NB.out).get 7 rfl)⟩, hb⟩
  refine wp_region_noPanic ?_
  refine wp_region_Z [11] (fun w' => (w'.cell? ⟨w.heap.size, 0, none⟩ = some (.int .u64 k.1) ∧ w'.cell? ⟨w.heap.size, 1, none⟩ = some (.int .i64 k.2) ∧ w'.cell? ⟨b, 7, none⟩ = some (.pointer (ptrO r))) ∧ Fr ((fun j => j ∈ r.blocks)) w1 w') (by kernel_rfl) (KQ.out _ (Fr.drew ((Fr.refl (fun j => j ∈ r.blocks) w1)))) (fun hH => ?_)
  have hbR := Fr.drew ((Fr.refl (fun j => j ∈ r.blocks) w1))
  first | (refine wpAnyZ_take (i := 0) (v := undef) rfl ?_ ?_ ?_ ?_ (fun _ _ _ h => h) ?_ ?_ ?_; kernel_rfl; kernel_rfl; kernel_rfl; kernel_rfl; exact Or.inr ⟨by rfl, rfl⟩; exact hH) | (refine wpAnyZ_take (i := 0) (v := ?_) rfl ?_ ?_ ?_ ?_ (fun _ _ _ h => h) ?_ ?_ ?_; rotate_left; kernel_rfl; kernel_rfl; kernel_rfl; kernel_rfl; (focus (refine Or.inl ⟨by rfl, ?_⟩; intro w' hSw; (try dsimp only at hSw); go_simp)); exact hH) | (refine wpAnyZ_take (i := 0) (v := ?_) rfl ?_ ?_ ?_ ?_ (fun _ _ _ h => h) ?_ ?_ ?_; rotate_left; kernel_rfl; kernel_rfl; kernel_rfl; kernel_rfl; (focus (refine Or.inl ⟨by rfl, ?_⟩; intro w' hSw; (try dsimp only at hSw); go_simp; with_reducible rfl)); exact hH)
  try simp only [Act.put, List.getElem_toArray, List.getElem_cons_succ, List.getElem_cons_zero, List.setIfInBounds_toArray, List.set_cons_zero, List.set_cons_succ]
  first | (refine wpAnyZ_take (i := 1) (v := undef) rfl ?_ ?_ ?_ ?_ (fun _ _ _ h => h) ?_ ?_ ?_; kernel_rfl; kernel_rfl; kernel_rfl; kernel_rfl; exact Or.inr ⟨by rfl, rfl⟩; exact hH) | (refine wpAnyZ_take (i := 1) (v := ?_) rfl ?_ ?_ ?_ ?_ (fun _ _ _ h => h) ?_ ?_ ?_; rotate_left; kernel_rfl; kernel_rfl; kernel_rfl; kernel_rfl; (focus (refine Or.inl ⟨by rfl, ?_⟩; intro w' hSw; (try dsimp only at hSw); go_simp)); exact hH) | (refine wpAnyZ_take (i := 1) (v := ?_) rfl ?_ ?_ ?_ ?_ (fun _ _ _ h => h) ?_ ?_ ?_; rotate_left; kernel_rfl; kernel_rfl; kernel_rfl; kernel_rfl; (focus (refine Or.inl ⟨by rfl, ?_⟩; intro w' hSw; (try dsimp only at hSw); go_simp; with_reducible rfl)); exact hH)
  try simp only [Act.put, List.getElem_toArray, List.getElem_cons_succ, List.getElem_cons_zero, List.setIfInBounds_toArray, List.set_cons_zero, List.set_cons_succ]
  first | (refine wpAnyZ_take (i := 2) (v := undef) rfl ?_ ?_ ?_ ?_ (fun _ _ _ h => h) ?_ ?_ ?_; kernel_rfl; kernel_rfl; kernel_rfl; kernel_rfl; exact Or.inr ⟨by rfl, rfl⟩; exact hH) | (refine wpAnyZ_take (i := 2) (v := ?_) rfl ?_ ?_ ?_ ?_ (fun _ _ _ h => h) ?_ ?_ ?_; rotate_left; kernel_rfl; kernel_rfl; kernel_rfl; kernel_rfl; (focus (refine Or.inl ⟨by rfl, ?_⟩; intro w' hSw; (try dsimp only at hSw); go_simp)); exact hH) | (refine wpAnyZ_take (i := 2) (v := ?_) rfl ?_ ?_ ?_ ?_ (fun _ _ _ h => h) ?_ ?_ ?_; rotate_left; kernel_rfl; kernel_rfl; kernel_rfl; kernel_rfl; (focus (refine Or.inl ⟨by rfl, ?_⟩; intro w' hSw; (try dsimp only at hSw); go_simp; with_reducible rfl)); exact hH)
  try simp only [Act.put, List.getElem_toArray, List.getElem_cons_succ, List.getElem_cons_zero, List.setIfInBounds_toArray, List.set_cons_zero, List.set_cons_succ]
  first | (refine wpAnyZ_take (i := 3) (v := undef) rfl ?_ ?_ ?_ ?_ (fun _ _ _ h => h) ?_ ?_ ?_; kernel_rfl; kernel_rfl; kernel_rfl; kernel_rfl; exact Or.inr ⟨by rfl, rfl⟩; exact hH) | (refine wpAnyZ_take (i := 3) (v := ?_) rfl ?_ ?_ ?_ ?_ (fun _ _ _ h => h) ?_ ?_ ?_; rotate_left; kernel_rfl; kernel_rfl; kernel_rfl; kernel_rfl; (focus (refine Or.inl ⟨by rfl, ?_⟩; intro w' hSw; (try dsimp only at hSw); go_simp)); exact hH) | (refine wpAnyZ_take (i := 3) (v := ?_) rfl ?_ ?_ ?_ ?_ (fun _ _ _ h => h) ?_ ?_ ?_; rotate_left; kernel_rfl; kernel_rfl; kernel_rfl; kernel_rfl; (focus (refine Or.inl ⟨by rfl, ?_⟩; intro w' hSw; (try dsimp only at hSw); go_simp; with_reducible rfl)); exact hH)
  try simp only [Act.put, List.getElem_toArray, List.getElem_cons_succ, List.getElem_cons_zero, List.setIfInBounds_toArray, List.set_cons_zero, List.set_cons_succ]
  first | (refine wpAnyZ_take (i := 4) (v := undef) rfl ?_ ?_ ?_ ?_ (fun _ _ _ h => h) ?_ ?_ ?_; kernel_rfl; kernel_rfl; kernel_rfl; kernel_rfl; exact Or.inr ⟨by rfl, rfl⟩; exact hH) | (refine wpAnyZ_take (i := 4) (v := ?_) rfl ?_ ?_ ?_ ?_ (fun _ _ _ h => h) ?_ ?_ ?_; rotate_left; kernel_rfl; kernel_rfl; kernel_rfl; kernel_rfl; (focus (refine Or.inl ⟨by rfl, ?_⟩; intro w' hSw; (try dsimp only at hSw); go_simp)); exact hH) | (refine wpAnyZ_take (i := 4) (v := ?_) rfl ?_ ?_ ?_ ?_ (fun _ _ _ h => h) ?_ ?_ ?_; rotate_left; kernel_rfl; kernel_rfl; kernel_rfl; kernel_rfl; (focus (refine Or.inl ⟨by rfl, ?_⟩; intro w' hSw; (try dsimp only at hSw); go_simp; with_reducible rfl)); exact hH)
  try simp only [Act.put, List.getElem_toArray, List.getElem_cons_succ, List.getElem_cons_zero, List.setIfInBounds_toArray, List.set_cons_zero, List.set_cons_succ]
  first | (refine wpAnyZ_take (i := 5) (v := undef) rfl ?_ ?_ ?_ ?_ (fun _ _ _ h => h) ?_ ?_ ?_; kernel_rfl; kernel_rfl; kernel_rfl; kernel_rfl; exact Or.inr ⟨by rfl, rfl⟩; exact hH) | (refine wpAnyZ_take (i := 5) (v := ?_) rfl ?_ ?_ ?_ ?_ (fun _ _ _ h => h) ?_ ?_ ?_; rotate_left; kernel_rfl; kernel_rfl; kernel_rfl; kernel_rfl; (focus (refine Or.inl ⟨by rfl, ?_⟩; intro w' hSw; (try dsimp only at hSw); go_simp)); exact hH) | (refine wpAnyZ_take (i := 5) (v := ?_) rfl ?_ ?_ ?_ ?_ (fun _ _ _ h => h) ?_ ?_ ?_; rotate_left; kernel_rfl; kernel_rfl; kernel_rfl; kernel_rfl; (focus (refine Or.inl ⟨by rfl, ?_⟩; intro w' hSw; (try dsimp only at hSw); go_simp; with_reducible rfl)); exact hH)
  try simp only [Act.put, List.getElem_toArray, List.getElem_cons_succ, List.getElem_cons_zero, List.setIfInBounds_toArray, List.set_cons_zero, List.set_cons_succ]
  first | (refine wpAnyZ_take (i := 6) (v := undef) rfl ?_ ?_ ?_ ?_ (fun _ _ _ h => h) ?_ ?_ ?_; kernel_rfl; kernel_rfl; kernel_rfl; kernel_rfl; exact Or.inr ⟨by rfl, rfl⟩; exact hH) | (refine wpAnyZ_take (i := 6) (v := ?_) rfl ?_ ?_ ?_ ?_ (fun _ _ _ h => h) ?_ ?_ ?_; rotate_left; kernel_rfl; kernel_rfl; kernel_rfl; kernel_rfl; (focus (refine Or.inl ⟨by rfl, ?_⟩; intro w' hSw; (try dsimp only at hSw); go_simp)); exact hH) | (refine wpAnyZ_take (i := 6) (v := ?_) rfl ?_ ?_ ?_ ?_ (fun _ _ _ h => h) ?_ ?_ ?_; rotate_left; kernel_rfl; kernel_rfl; kernel_rfl; kernel_rfl; (focus (refine Or.inl ⟨by rfl, ?_⟩; intro w' hSw; (try dsimp only at hSw); go_simp; with_reducible rfl)); exact hH)
  try simp only [Act.put, List.getElem_toArray, List.getElem_cons_succ, List.getElem_cons_zero, List.setIfInBounds_toArray, List.set_cons_zero, List.set_cons_succ]
  first | (refine wpAnyZ_take (i := 7) (v := undef) rfl ?_ ?_ ?_ ?_ (fun _ _ _ h => h) ?_ ?_ ?_; kernel_rfl; kernel_rfl; kernel_rfl; kernel_rfl; exact Or.inr ⟨by rfl, rfl⟩; exact hH) | (refine wpAnyZ_take (i := 7) (v := ?_) rfl ?_ ?_ ?_ ?_ (fun _ _ _ h => h) ?_ ?_ ?_; rotate_left; kernel_rfl; kernel_rfl; kernel_rfl; kernel_rfl; (focus (refine Or.inl ⟨by rfl, ?_⟩; intro w' hSw; (try dsimp only at hSw); go_simp)); exact hH) | (refine wpAnyZ_take (i := 7) (v := ?_) rfl ?_ ?_ ?_ ?_ (fun _ _ _ h => h) ?_ ?_ ?_; rotate_left; kernel_rfl; kernel_rfl; kernel_rfl; kernel_rfl; (focus (refine Or.inl ⟨by rfl, ?_⟩; intro w' hSw; (try dsimp only at hSw); go_simp; with_reducible rfl)); exact hH)
  try simp only [Act.put, List.getElem_toArray, List.getElem_cons_succ, List.getElem_cons_zero, List.setIfInBounds_toArray, List.set_cons_zero, List.set_cons_succ]
  refine wpAnyZ_ready (rs := [8]) (by kernel_rfl) (by simp) ?_
  refine (AllReadyZ.cons rfl (fun K hK => ?_) AllReadyZ.nil)
  go_simp
  with_reducible refine (HIH.out w1.drew (HBN.out.2.2.below (below_of_drew (Below.refl _ _))) HND.out.2.2.1 (HW.out.2.1.below (below_of_drew (Below.refl _ _))) TB.out.2).mono ?_
  rintro e w2 ⟨t', nb, rfl, hp⟩
  have fr2 : Fr (fun j => j ∈ r.blocks) w1 w2 := hH.2.trans hp.fr
  have bk2 := HBN.out.1.fr fr2 NB.out
  have HPK := Lib.hid (And.intro hp (And.intro fr2 bk2))
  have ff2 := bk2.frozen 7
  have cc2 : w2.cell? ⟨b, 7, none⟩ = some (.pointer (ptrO r)) := by rw [← ptrV_eq]; exact bk2.get 7 rfl
  clear hp bk2
  try go_wp2_with fail
  have hH2 := KQ.out _ fr2
  refine hK.out _ _ (fun _ => hH2) ?_
  clear hK K hH
  have hH := hH2
  clear hH2
  try simp only [Act.put, List.getElem_toArray, List.getElem_cons_succ, List.getElem_cons_zero, List.setIfInBounds_toArray, List.set_cons_zero, List.set_cons_succ]
  refine wpAnyZ_ready (rs := [9]) (by kernel_rfl) (by simp) ?_
  refine (AllReadyZ.cons rfl (fun K hK => ?_) AllReadyZ.nil)
  go_simp
  refine hK.out _ _ (fun _ => hH) ?_
  clear hK K
  try simp only [Act.put, List.getElem_toArray, List.getElem_cons_succ, List.getElem_cons_zero, List.setIfInBounds_toArray, List.set_cons_zero, List.set_cons_succ]
  first | (refine wpAnyZ_take (i := 10) (v := undef) rfl ?_ ?_ ?_ ?_ (fun _ _ _ h => h) ?_ ?_ ?_; kernel_rfl; kernel_rfl; kernel_rfl; kernel_rfl; exact Or.inr ⟨by rfl, rfl⟩; exact hH) | (refine wpAnyZ_take (i := 10) (v := ?_) rfl ?_ ?_ ?_ ?_ (fun _ _ _ h => h) ?_ ?_ ?_; rotate_left; kernel_rfl; kernel_rfl; kernel_rfl; kernel_rfl; (focus (refine Or.inl ⟨by rfl, ?_⟩; intro w' hSw; (try dsimp only at hSw); go_simp)); exact hH) | (refine wpAnyZ_take (i := 10) (v := ?_) rfl ?_ ?_ ?_ ?_ (fun _ _ _ h => h) ?_ ?_ ?_; rotate_left; kernel_rfl; kernel_rfl; kernel_rfl; kernel_rfl; (focus (refine Or.inl ⟨by rfl, ?_⟩; intro w' hSw; (try dsimp only at hSw); go_simp; with_reducible rfl)); exact hH)
  try simp only [Act.put, List.getElem_toArray, List.getElem_cons_succ, List.getElem_cons_zero, List.setIfInBounds_toArray, List.set_cons_zero, List.set_cons_succ]
  refine wpAnyZ_ready (rs := [11]) (by kernel_rfl) (by simp) ?_
  refine (AllReadyZ.cons rfl (fun K hK => ?_) AllReadyZ.nil)
  go_simp
  refine hK.out _ _ (fun h => absurd (by simp) h) ?_
  clear hK K
  try simp only [Act.put, List.getElem_toArray, List.getElem_cons_succ, List.getElem_cons_zero, List.setIfInBounds_toArray, List.set_cons_zero, List.set_cons_succ]
  refine wpAnyZ_done (by kernel_rfl) ?_ _
  refine NoPanic.normal ?_
  skip
  clear ff2 cc2 fr2 KQ
  obtain ⟨hp, fr2, bk2⟩ := HPK.out
  have F3 : Fr (fun j => j = b) w2 (w2.setCell ⟨b, 7, none⟩ (.pointer (ptrO t'))) := (Fr.refl (fun j => j = b) w2).setCell (p := ⟨b, 7, none⟩) (fun _ => rfl) _
  have hperm : List.Perm (RB.blocks (.node b c l kk vv s t')) (nb :: RB.blocks (.node b c l kk vv s r)) := blocks_right hp.perm
  have hnb : w.heap.size ≤ nb := Nat.le_trans HW.out.2.2.1.size hp.ge
  have hlt := RepH.lt HH.out.1
  have hnd3 : (nb :: RB.blocks (.node b c l kk vv s r)).Nodup := List.nodup_cons.2 ⟨fun hx => by have := hlt nb hx; omega, HH.out.2.1⟩
  have hnd4 := hperm.nodup_iff.2 hnd3
  have hT3 : T ∉ RB.blocks (.node b c l kk vv s t') := fun hx => by
    rcases List.mem_cons.1 (hperm.mem_iff.1 hx) with e | hx
    · have : T < w.heap.size := by obtain ⟨cs, h1, _⟩ := HH.out.2.2.1; exact h1.lt
      omega
    · exact HH.out.2.2.2 hx
  have hbt : b ∉ t'.blocks := by
    have h := hnd4
    simp only [RB.blocks, List.nodup_cons, List.mem_append, not_or] at h
    exact h.1.2
  have hR3 : RepH (w2.setCell ⟨b, 7, none⟩ (.pointer (ptrO t'))) (.node b c l kk vv s t') := by
    have h1 := bk2.put 7 (.pointer (ptrO t'))
    have h2 := RepH.fr F3 hp.rep (fun x hx e => hbt (e ▸ hx))
    have h3 := RepH.fr F3 (RepH.fr fr2 HBN.out.2.1 (fun x hx hx2 => HND.out.2.2.2 x hx x hx2 rfl)) (fun x hx e => HND.out.1.1 (e ▸ hx))
    refine ⟨?_, h3, h2⟩
    rw [ptrV_eq t']
    exact h1
  have hTr := hp.tre.fr F3 TB.out.1
  have HQ := Lib.hid (And.intro hR3 (And.intro hnd4 (And.intro hTr (And.intro hT3 (And.intro F3 (And.intro fr2 (And.intro hp (And.intro hperm hnb))))))))
  clear hp fr2 bk2 F3 hperm hnb hlt hnd3 hnd4 hT3 hbt hR3 hTr HPK
  generalize w2.setCell ⟨b, 7, none⟩ (.pointer (ptrO t')) = w3 at HQ ⊢
  go_wp2_with fail
  with_reducible refine (rh_balance T b c l kk vv s t' w3 HQ.out.1 HQ.out.2.1 HQ.out.2.2.1 HQ.out.2.2.2.1).mono ?_
  rintro e w4 ⟨rfl, hS⟩
  have HS4 := Lib.hid hS
  clear hS
  go_wp2_with fail
  go_ret
  obtain ⟨_, _, _, _, F3, fr2, hp, hperm, hnb⟩ := HQ.out
  have hS := HS4.out
  refine ⟨RB.bal ofH minH (.node b c l kk vv s t'), nb, by rw [ptrV_eq]; rfl, ?_⟩
  have FA : Fr (fun j => j ∈ nb :: RB.blocks (.node b c l kk vv s r)) w w4 := by
    refine (Fr.of_new HW.out.2.2.1).trans ((fr2.mono fun j _ hj => ?_).trans ((F3.mono fun j _ hj => ?_).trans (hS.fr.mono fun j _ hj => hperm.mem_iff.1 hj)))
    · simp only [RB.blocks, List.mem_cons, List.mem_append]; first | exact Or.inr (Or.inr (Or.inl hj)) | exact Or.inr (Or.inr (Or.inr hj))
    · simp only [RB.blocks, List.mem_cons, List.mem_append]; exact Or.inr (Or.inl hj)
  refine ⟨RB.put_right HP.out.2.1 HP.out.2.2.1 HP.out.2.2.2.1 hp.post HP.out.2.2.2.2.2, ?_, hS.rep, FA.mono fun j h1 hj => ?_, hS.perm.trans hperm, hnb, hS.tre⟩
  · rw [RB.items_bal]
    simp only [RB.items]
    rw [hp.items]
    exact (ins_right (p := (kk, vv)) _ HK.out _ (Rises.mid HP.out.1).1).symm
  · rcases List.mem_cons.1 hj with rfl | hj
    · omega
    · exact hj

end Go.Proofs.Ytjlnbpomncglcaa
