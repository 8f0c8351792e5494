/-
  Red-black trees in memory (h): the first that is found.
-/
import Derived.Test.YtjlnbpomncglcaaProg
import Derived.Test.YtjlnbpomncglcaaRBHV
import Derived.Test.YtjlnbpomncglcaaRBSum
namespace Go.Proofs.Ytjlnbpomncglcaa
set_option linter.unusedVariables false
set_option linter.unusedSimpArgs false
set_option maxRecDepth 100000
open Go.RowKit Go.Shelf

section
variable {P : Program} {w : World} {ps rs : Array TypeId} {v : Bool}
theorem equalIn_fnG (d : Nat) (t : TypeId) (g : Fn) (b c : Array Value) (h : P.underlying t = some (.func ps rs v)) : (Op.equalIn (d + 1) t (.func g b c) .nilFunc).run P w = .ok false w := by simp [Op.equalIn, run_underlying h]
theorem equal_fnG (t : TypeId) (g : Fn) (b c : Array Value) (h : P.underlying t = some (.func ps rs v)) : (Op.equal t (.func g b c) .nilFunc).run P w = .ok false w := equalIn_fnG 9999 t g b c h
theorem eql_fnG (t : TypeId) (g : Fn) (b c : Array Value) (h : P.underlying t = some (.func ps rs v)) : (binOp .eql t (.func g b c) .nilFunc).run P w = .ok (.bool false) w := by
  simp only [binOp]
  simp [equal_fnG t g b c h]
end
def okH (m : Int) (s : Int × Int) : Bool := decide (s.1 ≤ m)
theorem okH_join (m : Int) (a b : Int × Int) : okH m (minH a b) = (okH m a || okH m b) := by
  unfold okH minH
  by_cases h3 : ltH b a = true
  · rw [if_pos h3]
    rw [ltH_iff] at h3
    by_cases h1 : a.1 ≤ m <;> by_cases h2 : b.1 ≤ m <;> simp [h1, h2] <;> omega
  · rw [if_neg h3]
    rw [ltH_iff] at h3
    by_cases h1 : a.1 ≤ m <;> by_cases h2 : b.1 ≤ m <;> simp [h1, h2] <;> omega
theorem okH_of (m : Int) (k : RK) (v : Int) : okH m (ofH k v) = decide (v ≤ m) := rfl
theorem rh_ok (B : Nat) (m : Int) (s : Int × Int) (w : World) (hm : Blk w B 23 #[.int .u64 m]) : Calls Try.prog 75 #[.agg #[.int .u64 s.1, .int .i64 s.2], .pointer (some ⟨B, 0, none⟩)] w fun e w' => e = .returned (.bool (okH m s)) ∧ Below w.heap.size w w' := by
  obtain ⟨b, hb⟩ : ∃ b, okH m s = b := ⟨_, rfl⟩
  have hd : decide (s.1 ≤ m) = b := hb
  have x0 := hm.get 0 rfl
  have xl := hm.lt
  rw [hb]
  clear hb hm
  go_enter Try.func75, Try.ntmps75
  go_wp2
  go_ret
  exact ⟨by simp, by go_grown⟩

def okOH (m : Int) : Option (Int × Int) → Bool
  | none => false
  | some s => okH m s
theorem okOH_sum (m : Int) : ∀ (L : Row) (o : Option (Int × Int)), okOH m (sumFrom ofH minH o L) = (okOH m o || anyTo m L)
  | [], o => by simp [sumFrom, anyTo]
  | p :: L, o => by
    simp only [sumFrom]
    rw [okOH_sum m L]
    cases o with
    | none => simp [more, okOH, okH_of, anyTo]
    | some s => simp [more, okOH, okH_join, okH_of, anyTo, Bool.or_assoc]
theorem okH_tree {m : Int} {b : Nat} {c : Bool} {l r : RB (Int × Int)} {k : RK} {v : Int} {s : (Int × Int)} {n : Nat} (h : RB.W ofH minH (.node b c l k v s r) n) : okH m s = anyTo m (RB.items (.node b c l k v s r)) := by
  have h1 := okOH_sum m (RB.items (.node b c l k v s r)) none
  rw [RB.W.sum minH_assoc h] at h1
  simpa [okOH] using h1
def FindR (m : Int) (L : Row) : Ending := .returned (.tuple #[.agg #[.int .u64 ((findTo m L).getD (0, 0)).1, .int .i64 ((findTo m L).getD (0, 0)).2], .bool (findTo m L).isSome])
set_option maxHeartbeats 16000000 in
theorem rh_find (T : Nat) (t : RB (Int × Int)) (B : Nat) (m : Int) (w : World) (h : TrIsH w T t) (hm : Blk w B 23 #[.int .u64 m]) :
    Calls Try.prog 74 #[.pointer (some ⟨T, 0, none⟩), (.func (.func 75) #[] #[.pointer (some ⟨B, 0, none⟩)])] w fun e w' => e = FindR m t.items ∧ Below w.heap.size w w' := by
  have HT := Lib.hid h
  clear h
  have q := fun w => eql_fnG (w := w) 122 (.func 75) #[] #[.pointer (some ⟨B, 0, none⟩)] Try.underlying122
  go_enter Try.func74, Try.ntmps74
  go_upto_region 1 with (fail)
  have hb0 : Below w.heap.size w (w.alloc (.cells #[.int .u64 0, .int .i64 0] 31)) := by go_grown
  have kb := Blk.new w 31 #[.int .u64 0, .int .i64 0]
  generalize w.alloc (.cells #[.int .u64 0, .int .i64 0] 31) = w0 at hb0 kb ⊢
  have HB := Lib.hid (And.intro hb0 kb)
  have HT0 := Lib.hid (HT.out.next hb0)
  have HM0 := Lib.hid (hm.next hb0)
  clear hb0 kb hm
  go_wp2_with fail
  with_reducible refine (rh_none T w0 HT0.out.tre).mono ?_
  rintro e wx ⟨rfl, rfl⟩
  have x0 : w0.cell? ⟨T, 2, none⟩ = some (.pointer (ptrO t)) := by rw [← ptrV_eq]; exact HT0.out.blk.get 2 rfl
  go_wp2_with fail
  clear x0 q
  go_loopg [6] t.size (fun gk pv wr => ∃ (u : RB (Int × Int)) (p : Value), p = pv ∧ u.size = gk ∧ p = .pointer (ptrO u) ∧ Below w0.heap.size w0 wr ∧ RepH wr u ∧ (∃ n, RB.W ofH minH u n) ∧ findTo m u.items = findTo m t.items)
  case atStart => exact ⟨t, _, rfl, rfl, rfl, Below.refl _ _, HT0.out.rep, HT0.out.well, rfl⟩
  case round =>
    obtain ⟨u, p, rfl, hsz, hpv, hbw, hu, huw, huf⟩ := hrel
    have HBW := Lib.hid hbw
    have HKB := Lib.hid (HB.out.2.next hbw)
    have HTR := Lib.hid (HT0.out.tre.below hbw)
    clear hbw
    cases u with
    | nil =>
      have hpv : p = .pointer none := hpv
      subst hpv
      have HF := Lib.hid (show findTo m t.items = none from huf.symm)
      clear huf huw hu
      have f0 := HKB.out.frozen 0
      have f1 := HKB.out.frozen 1
      have c0 := HKB.out.get 0 rfl
      have c1 := HKB.out.get 1 rfl
      go_wp2
      have kb3 := (HKB.out.put 0 (.int .u64 0)).put 1 (.int .i64 0)
      have b5 : Below w.heap.size w ((wr.setCell ⟨w.heap.size, 0, none⟩ (.int .u64 0)).setCell ⟨w.heap.size, 1, none⟩ (.int .i64 0)) := ((HB.out.1.trans (HBW.out.mono HB.out.1.size)).setCell (p := ⟨w.heap.size, 0, none⟩) (Nat.le_refl _) _).setCell (p := ⟨w.heap.size, 1, none⟩) (Nat.le_refl _) _
      revert kb3 b5
      generalize ((wr.setCell ⟨w.heap.size, 0, none⟩ (.int .u64 0)).setCell ⟨w.heap.size, 1, none⟩ (.int .i64 0)) = W3
      intro kb3 b5
      have m0 : W3.cell? ⟨w.heap.size, 0, none⟩ = some (.int .u64 0) := kb3.get 0 rfl
      have m1 : W3.cell? ⟨w.heap.size, 1, none⟩ = some (.int .i64 0) := kb3.get 1 rfl
      refine bodyPost_ret (by simp [results, Try.results74, go_sem, m0, m1]; try rfl) rfl ⟨?_, b5⟩
      rw [FindR, HF.out]
      rfl
    | node b c l k v s r =>
      rw [node_ptr] at hpv
      subst hpv
      have hu2 : Blk wr b 138 #[.int .u64 k.1, .int .i64 k.2, .int .u64 v, .int .u64 s.1, .int .i64 s.2, .bool c, ptrV l, ptrV r] ∧ RepH wr l ∧ RepH wr r := hu
      have HU := Lib.hid hu2
      obtain ⟨nw, hnw⟩ := huw
      obtain ⟨_, _, _, nm, hwl, hwr, _⟩ := hnw
      have HF := Lib.hid (And.intro huf (And.intro hwl hwr))
      clear hu hu2 huf hwl hwr
      have HOKB := Lib.hid (HM0.out.next HBW.out)
      cases l with
      | nil =>
        have xl : wr.cell? ⟨b, 6, none⟩ = some (.pointer none) := HU.out.1.get 6 rfl
        have HANY : Hid (anyTo m (RB.items (.nil : RB (Int × Int))) = false) := rfl
        have HXX := Lib.hid (Below.refl wr.heap.size wr)
        have KP : Hid (∀ w', Below (wr.heap.size) wr w' → (w'.cell? ⟨T, 0, none⟩ = some ((.func (.func 86) #[] #[])) ∧ w'.cell? ⟨b, 0, none⟩ = some (.int .u64 k.1) ∧ w'.cell? ⟨b, 1, none⟩ = some (.int .i64 k.2) ∧ w'.cell? ⟨b, 2, none⟩ = some (.int .u64 v)) ∧ Below (wr.heap.size) wr w') := fun w' hb => ⟨⟨((HTR.out.below HXX.out).below hb).c0, ((HU.out.1.next HXX.out).next hb).get 0 rfl, ((HU.out.1.next HXX.out).next hb).get 1 rfl, ((HU.out.1.next HXX.out).next hb).get 2 rfl⟩, hb⟩
        go_upto_region 8 with (fail)
        refine wp_region_noPanic ?_
        refine wp_region_held_drew (S := fun w' => (w'.cell? ⟨T, 0, none⟩ = some ((.func (.func 86) #[] #[])) ∧ w'.cell? ⟨b, 0, none⟩ = some (.int .u64 k.1) ∧ w'.cell? ⟨b, 1, none⟩ = some (.int .i64 k.2) ∧ w'.cell? ⟨b, 2, none⟩ = some (.int .u64 v)) ∧ Below (wr.heap.size) wr w') (by kernel_rfl) (KP.out _ (below_of_drew ((Below.refl wr.heap.size wr)))) (fun hH => ?_)
        first | (refine wpAnyH_take (i := 0) (v := undef) rfl ?_ ?_ ?_ (fun _ _ _ h => h) ?_ ?_ ?_; kernel_rfl; kernel_rfl; kernel_rfl; exact Or.inr ⟨by rfl, rfl⟩; exact hH) | (refine wpAnyH_take (i := 0) (v := ?_) rfl ?_ ?_ ?_ (fun _ _ _ h => h) ?_ ?_ ?_; rotate_left; kernel_rfl; kernel_rfl; kernel_rfl; (focus (refine Or.inl ⟨by rfl, ?_⟩; intro w' hSw; (try dsimp only at hSw); go_simp)); exact hH) | (refine wpAnyH_take (i := 0) (v := ?_) rfl ?_ ?_ ?_ (fun _ _ _ h => h) ?_ ?_ ?_; rotate_left; kernel_rfl; kernel_rfl; kernel_rfl; (focus (refine Or.inl ⟨by rfl, ?_⟩; intro w' hSw; (try dsimp only at hSw); go_simp; with_reducible rfl)); exact hH)
        try simp only [Act.put, List.getElem_toArray, List.getElem_cons_succ, List.getElem_cons_zero, List.setIfInBounds_toArray, List.set_cons_zero, List.set_cons_succ]
        first | (refine wpAnyH_take (i := 1) (v := undef) rfl ?_ ?_ ?_ (fun _ _ _ h => h) ?_ ?_ ?_; kernel_rfl; kernel_rfl; kernel_rfl; exact Or.inr ⟨by rfl, rfl⟩; exact hH) | (refine wpAnyH_take (i := 1) (v := ?_) rfl ?_ ?_ ?_ (fun _ _ _ h => h) ?_ ?_ ?_; rotate_left; kernel_rfl; kernel_rfl; kernel_rfl; (focus (refine Or.inl ⟨by rfl, ?_⟩; intro w' hSw; (try dsimp only at hSw); go_simp)); exact hH) | (refine wpAnyH_take (i := 1) (v := ?_) rfl ?_ ?_ ?_ (fun _ _ _ h => h) ?_ ?_ ?_; rotate_left; kernel_rfl; kernel_rfl; kernel_rfl; (focus (refine Or.inl ⟨by rfl, ?_⟩; intro w' hSw; (try dsimp only at hSw); go_simp; with_reducible rfl)); exact hH)
        try simp only [Act.put, List.getElem_toArray, List.getElem_cons_succ, List.getElem_cons_zero, List.setIfInBounds_toArray, List.set_cons_zero, List.set_cons_succ]
        first | (refine wpAnyH_take (i := 2) (v := undef) rfl ?_ ?_ ?_ (fun _ _ _ h => h) ?_ ?_ ?_; kernel_rfl; kernel_rfl; kernel_rfl; exact Or.inr ⟨by rfl, rfl⟩; exact hH) | (refine wpAnyH_take (i := 2) (v := ?_) rfl ?_ ?_ ?_ (fun _ _ _ h => h) ?_ ?_ ?_; rotate_left; kernel_rfl; kernel_rfl; kernel_rfl; (focus (refine Or.inl ⟨by rfl, ?_⟩; intro w' hSw; (try dsimp only at hSw); go_simp)); exact hH) | (refine wpAnyH_take (i := 2) (v := ?_) rfl ?_ ?_ ?_ (fun _ _ _ h => h) ?_ ?_ ?_; rotate_left; kernel_rfl; kernel_rfl; kernel_rfl; (focus (refine Or.inl ⟨by rfl, ?_⟩; intro w' hSw; (try dsimp only at hSw); go_simp; with_reducible rfl)); exact hH)
        try simp only [Act.put, List.getElem_toArray, List.getElem_cons_succ, List.getElem_cons_zero, List.setIfInBounds_toArray, List.set_cons_zero, List.set_cons_succ]
        first | (refine wpAnyH_take (i := 3) (v := undef) rfl ?_ ?_ ?_ (fun _ _ _ h => h) ?_ ?_ ?_; kernel_rfl; kernel_rfl; kernel_rfl; exact Or.inr ⟨by rfl, rfl⟩; exact hH) | (refine wpAnyH_take (i := 3) (v := ?_) rfl ?_ ?_ ?_ (fun _ _ _ h => h) ?_ ?_ ?_; rotate_left; kernel_rfl; kernel_rfl; kernel_rfl; (focus (refine Or.inl ⟨by rfl, ?_⟩; intro w' hSw; (try dsimp only at hSw); go_simp)); exact hH) | (refine wpAnyH_take (i := 3) (v := ?_) rfl ?_ ?_ ?_ (fun _ _ _ h => h) ?_ ?_ ?_; rotate_left; kernel_rfl; kernel_rfl; kernel_rfl; (focus (refine Or.inl ⟨by rfl, ?_⟩; intro w' hSw; (try dsimp only at hSw); go_simp; with_reducible rfl)); exact hH)
        try simp only [Act.put, List.getElem_toArray, List.getElem_cons_succ, List.getElem_cons_zero, List.setIfInBounds_toArray, List.set_cons_zero, List.set_cons_succ]
        first | (refine wpAnyH_take (i := 4) (v := undef) rfl ?_ ?_ ?_ (fun _ _ _ h => h) ?_ ?_ ?_; kernel_rfl; kernel_rfl; kernel_rfl; exact Or.inr ⟨by rfl, rfl⟩; exact hH) | (refine wpAnyH_take (i := 4) (v := ?_) rfl ?_ ?_ ?_ (fun _ _ _ h => h) ?_ ?_ ?_; rotate_left; kernel_rfl; kernel_rfl; kernel_rfl; (focus (refine Or.inl ⟨by rfl, ?_⟩; intro w' hSw; (try dsimp only at hSw); go_simp)); exact hH) | (refine wpAnyH_take (i := 4) (v := ?_) rfl ?_ ?_ ?_ (fun _ _ _ h => h) ?_ ?_ ?_; rotate_left; kernel_rfl; kernel_rfl; kernel_rfl; (focus (refine Or.inl ⟨by rfl, ?_⟩; intro w' hSw; (try dsimp only at hSw); go_simp; with_reducible rfl)); exact hH)
        try simp only [Act.put, List.getElem_toArray, List.getElem_cons_succ, List.getElem_cons_zero, List.setIfInBounds_toArray, List.set_cons_zero, List.set_cons_succ]
        first | (refine wpAnyH_take (i := 5) (v := undef) rfl ?_ ?_ ?_ (fun _ _ _ h => h) ?_ ?_ ?_; kernel_rfl; kernel_rfl; kernel_rfl; exact Or.inr ⟨by rfl, rfl⟩; exact hH) | (refine wpAnyH_take (i := 5) (v := ?_) rfl ?_ ?_ ?_ (fun _ _ _ h => h) ?_ ?_ ?_; rotate_left; kernel_rfl; kernel_rfl; kernel_rfl; (focus (refine Or.inl ⟨by rfl, ?_⟩; intro w' hSw; (try dsimp only at hSw); go_simp)); exact hH) | (refine wpAnyH_take (i := 5) (v := ?_) rfl ?_ ?_ ?_ (fun _ _ _ h => h) ?_ ?_ ?_; rotate_left; kernel_rfl; kernel_rfl; kernel_rfl; (focus (refine Or.inl ⟨by rfl, ?_⟩; intro w' hSw; (try dsimp only at hSw); go_simp; with_reducible rfl)); exact hH)
        try simp only [Act.put, List.getElem_toArray, List.getElem_cons_succ, List.getElem_cons_zero, List.setIfInBounds_toArray, List.set_cons_zero, List.set_cons_succ]
        first | (refine wpAnyH_take (i := 6) (v := undef) rfl ?_ ?_ ?_ (fun _ _ _ h => h) ?_ ?_ ?_; kernel_rfl; kernel_rfl; kernel_rfl; exact Or.inr ⟨by rfl, rfl⟩; exact hH) | (refine wpAnyH_take (i := 6) (v := ?_) rfl ?_ ?_ ?_ (fun _ _ _ h => h) ?_ ?_ ?_; rotate_left; kernel_rfl; kernel_rfl; kernel_rfl; (focus (refine Or.inl ⟨by rfl, ?_⟩; intro w' hSw; (try dsimp only at hSw); go_simp)); exact hH) | (refine wpAnyH_take (i := 6) (v := ?_) rfl ?_ ?_ ?_ (fun _ _ _ h => h) ?_ ?_ ?_; rotate_left; kernel_rfl; kernel_rfl; kernel_rfl; (focus (refine Or.inl ⟨by rfl, ?_⟩; intro w' hSw; (try dsimp only at hSw); go_simp; with_reducible rfl)); exact hH)
        try simp only [Act.put, List.getElem_toArray, List.getElem_cons_succ, List.getElem_cons_zero, List.setIfInBounds_toArray, List.set_cons_zero, List.set_cons_succ]
        first | (refine wpAnyH_take (i := 7) (v := undef) rfl ?_ ?_ ?_ (fun _ _ _ h => h) ?_ ?_ ?_; kernel_rfl; kernel_rfl; kernel_rfl; exact Or.inr ⟨by rfl, rfl⟩; exact hH) | (refine wpAnyH_take (i := 7) (v := ?_) rfl ?_ ?_ ?_ (fun _ _ _ h => h) ?_ ?_ ?_; rotate_left; kernel_rfl; kernel_rfl; kernel_rfl; (focus (refine Or.inl ⟨by rfl, ?_⟩; intro w' hSw; (try dsimp only at hSw); go_simp)); exact hH) | (refine wpAnyH_take (i := 7) (v := ?_) rfl ?_ ?_ ?_ (fun _ _ _ h => h) ?_ ?_ ?_; rotate_left; kernel_rfl; kernel_rfl; kernel_rfl; (focus (refine Or.inl ⟨by rfl, ?_⟩; intro w' hSw; (try dsimp only at hSw); go_simp; with_reducible rfl)); exact hH)
        try simp only [Act.put, List.getElem_toArray, List.getElem_cons_succ, List.getElem_cons_zero, List.setIfInBounds_toArray, List.set_cons_zero, List.set_cons_succ]
        first | (refine wpAnyH_take (i := 8) (v := undef) rfl ?_ ?_ ?_ (fun _ _ _ h => h) ?_ ?_ ?_; kernel_rfl; kernel_rfl; kernel_rfl; exact Or.inr ⟨by rfl, rfl⟩; exact hH) | (refine wpAnyH_take (i := 8) (v := ?_) rfl ?_ ?_ ?_ (fun _ _ _ h => h) ?_ ?_ ?_; rotate_left; kernel_rfl; kernel_rfl; kernel_rfl; (focus (refine Or.inl ⟨by rfl, ?_⟩; intro w' hSw; (try dsimp only at hSw); go_simp)); exact hH) | (refine wpAnyH_take (i := 8) (v := ?_) rfl ?_ ?_ ?_ (fun _ _ _ h => h) ?_ ?_ ?_; rotate_left; kernel_rfl; kernel_rfl; kernel_rfl; (focus (refine Or.inl ⟨by rfl, ?_⟩; intro w' hSw; (try dsimp only at hSw); go_simp; with_reducible rfl)); exact hH)
        try simp only [Act.put, List.getElem_toArray, List.getElem_cons_succ, List.getElem_cons_zero, List.setIfInBounds_toArray, List.set_cons_zero, List.set_cons_succ]
        first | (refine wpAnyH_take (i := 9) (v := undef) rfl ?_ ?_ ?_ (fun _ _ _ h => h) ?_ ?_ ?_; kernel_rfl; kernel_rfl; kernel_rfl; exact Or.inr ⟨by rfl, rfl⟩; exact hH) | (refine wpAnyH_take (i := 9) (v := ?_) rfl ?_ ?_ ?_ (fun _ _ _ h => h) ?_ ?_ ?_; rotate_left; kernel_rfl; kernel_rfl; kernel_rfl; (focus (refine Or.inl ⟨by rfl, ?_⟩; intro w' hSw; (try dsimp only at hSw); go_simp)); exact hH) | (refine wpAnyH_take (i := 9) (v := ?_) rfl ?_ ?_ ?_ (fun _ _ _ h => h) ?_ ?_ ?_; rotate_left; kernel_rfl; kernel_rfl; kernel_rfl; (focus (refine Or.inl ⟨by rfl, ?_⟩; intro w' hSw; (try dsimp only at hSw); go_simp; with_reducible rfl)); exact hH)
        try simp only [Act.put, List.getElem_toArray, List.getElem_cons_succ, List.getElem_cons_zero, List.setIfInBounds_toArray, List.set_cons_zero, List.set_cons_succ]
        first | (refine wpAnyH_take (i := 10) (v := undef) rfl ?_ ?_ ?_ (fun _ _ _ h => h) ?_ ?_ ?_; kernel_rfl; kernel_rfl; kernel_rfl; exact Or.inr ⟨by rfl, rfl⟩; exact hH) | (refine wpAnyH_take (i := 10) (v := ?_) rfl ?_ ?_ ?_ (fun _ _ _ h => h) ?_ ?_ ?_; rotate_left; kernel_rfl; kernel_rfl; kernel_rfl; (focus (refine Or.inl ⟨by rfl, ?_⟩; intro w' hSw; (try dsimp only at hSw); go_simp)); exact hH) | (refine wpAnyH_take (i := 10) (v := ?_) rfl ?_ ?_ ?_ (fun _ _ _ h => h) ?_ ?_ ?_; rotate_left; kernel_rfl; kernel_rfl; kernel_rfl; (focus (refine Or.inl ⟨by rfl, ?_⟩; intro w' hSw; (try dsimp only at hSw); go_simp; with_reducible rfl)); exact hH)
        try simp only [Act.put, List.getElem_toArray, List.getElem_cons_succ, List.getElem_cons_zero, List.setIfInBounds_toArray, List.set_cons_zero, List.set_cons_succ]
        first | (refine wpAnyH_take (i := 11) (v := undef) rfl ?_ ?_ ?_ (fun _ _ _ h => h) ?_ ?_ ?_; kernel_rfl; kernel_rfl; kernel_rfl; exact Or.inr ⟨by rfl, rfl⟩; exact hH) | (refine wpAnyH_take (i := 11) (v := ?_) rfl ?_ ?_ ?_ (fun _ _ _ h => h) ?_ ?_ ?_; rotate_left; kernel_rfl; kernel_rfl; kernel_rfl; (focus (refine Or.inl ⟨by rfl, ?_⟩; intro w' hSw; (try dsimp only at hSw); go_simp)); exact hH) | (refine wpAnyH_take (i := 11) (v := ?_) rfl ?_ ?_ ?_ (fun _ _ _ h => h) ?_ ?_ ?_; rotate_left; kernel_rfl; kernel_rfl; kernel_rfl; (focus (refine Or.inl ⟨by rfl, ?_⟩; intro w' hSw; (try dsimp only at hSw); go_simp; with_reducible rfl)); exact hH)
        try simp only [Act.put, List.getElem_toArray, List.getElem_cons_succ, List.getElem_cons_zero, List.setIfInBounds_toArray, List.set_cons_zero, List.set_cons_succ]
        first | (refine wpAnyH_take (i := 12) (v := undef) rfl ?_ ?_ ?_ (fun _ _ _ h => h) ?_ ?_ ?_; kernel_rfl; kernel_rfl; kernel_rfl; exact Or.inr ⟨by rfl, rfl⟩; exact hH) | (refine wpAnyH_take (i := 12) (v := ?_) rfl ?_ ?_ ?_ (fun _ _ _ h => h) ?_ ?_ ?_; rotate_left; kernel_rfl; kernel_rfl; kernel_rfl; (focus (refine Or.inl ⟨by rfl, ?_⟩; intro w' hSw; (try dsimp only at hSw); go_simp)); exact hH) | (refine wpAnyH_take (i := 12) (v := ?_) rfl ?_ ?_ ?_ (fun _ _ _ h => h) ?_ ?_ ?_; rotate_left; kernel_rfl; kernel_rfl; kernel_rfl; (focus (refine Or.inl ⟨by rfl, ?_⟩; intro w' hSw; (try dsimp only at hSw); go_simp; with_reducible rfl)); exact hH)
        try simp only [Act.put, List.getElem_toArray, List.getElem_cons_succ, List.getElem_cons_zero, List.setIfInBounds_toArray, List.set_cons_zero, List.set_cons_succ]
        refine wpAnyH_ready (rs := [13]) (by kernel_rfl) (by simp) ?_
        refine AllReadyH.cons rfl (fun K hK => ?_) AllReadyH.nil
        go_simp
        with_reducible refine (rh_of k v _).mono ?_
        rintro e w1 ⟨rfl, hb1'⟩
        have hb1 : Below wr.heap.size wr w1 := below_next hH.2 hb1'
        try go_wp2_with fail
        refine hK.out _ _ (KP.out _ hb1) (fun hH1 => ?_)
        clear hK K hH
        have hH := hH1
        clear hH1
        try simp only [Act.put, List.getElem_toArray, List.getElem_cons_succ, List.getElem_cons_zero, List.setIfInBounds_toArray, List.set_cons_zero, List.set_cons_succ]
        refine wpAnyH_ready (rs := [14]) (by kernel_rfl) (by simp) ?_
        refine AllReadyH.cons rfl (fun K hK => ?_) AllReadyH.nil
        go_simp
        with_reducible refine (rh_ok B m _ _ (((HOKB.out.next HXX.out).next hH.2))).mono ?_
        rintro e w2 ⟨rfl, hb2'⟩
        have hb2 : Below wr.heap.size wr w2 := below_next hH.2 hb2'
        try go_wp2_with fail
        refine hK.out _ _ (KP.out _ hb2) (fun hH2 => ?_)
        clear hK K hH
        have hH := hH2
        clear hH2
        try simp only [Act.put, List.getElem_toArray, List.getElem_cons_succ, List.getElem_cons_zero, List.setIfInBounds_toArray, List.set_cons_zero, List.set_cons_succ]
        first | (refine wpAnyH_take (i := 15) (v := undef) rfl ?_ ?_ ?_ (fun _ _ _ h => h) ?_ ?_ ?_; kernel_rfl; kernel_rfl; kernel_rfl; exact Or.inr ⟨by rfl, rfl⟩; exact hH) | (refine wpAnyH_take (i := 15) (v := ?_) rfl ?_ ?_ ?_ (fun _ _ _ h => h) ?_ ?_ ?_; rotate_left; kernel_rfl; kernel_rfl; kernel_rfl; (focus (refine Or.inl ⟨by rfl, ?_⟩; intro w' hSw; (try dsimp only at hSw); go_simp)); exact hH) | (refine wpAnyH_take (i := 15) (v := ?_) rfl ?_ ?_ ?_ (fun _ _ _ h => h) ?_ ?_ ?_; rotate_left; kernel_rfl; kernel_rfl; kernel_rfl; (focus (refine Or.inl ⟨by rfl, ?_⟩; intro w' hSw; (try dsimp only at hSw); go_simp; with_reducible rfl)); exact hH)
        try simp only [Act.put, List.getElem_toArray, List.getElem_cons_succ, List.getElem_cons_zero, List.setIfInBounds_toArray, List.set_cons_zero, List.set_cons_succ]
        refine wpAnyH_done (by kernel_rfl) ?_ _
        refine NoPanic.normal ?_
        clear hH
        have HB2 := Lib.hid (below_next HXX.out hb2)
        clear hb1 hb2 hb1' hb2' KP
        obtain ⟨bb, hbb⟩ : ∃ x, okH m (ofH k v) = x := ⟨_, rfl⟩
        rw [hbb]
        have HV := Lib.hid (show decide (v ≤ m) = bb from (okH_of m k v).symm.trans hbb)
        clear hbb
        have kb2 := HKB.out.next HB2.out
        have bn := HU.out.1.next HB2.out
        have f0 := kb2.frozen 0
        have f1 := kb2.frozen 1
        have c0 := kb2.get 0 rfl
        have c1 := kb2.get 1 rfl
        have n0 := bn.get 0 rfl
        have n1 := bn.get 1 rfl
        have nr : w2.cell? ⟨b, 7, none⟩ = some (.pointer (ptrO r)) := by rw [← ptrV_eq]; exact bn.get 7 rfl
        cases bb with
        | true =>
          have HKB2 := Lib.hid kb2
          clear kb2 bn nr
          go_wp2
          have kb3 := (HKB2.out.put 0 (.int .u64 k.1)).put 1 (.int .i64 k.2)
          have b5 : Below w.heap.size w ((w2.setCell ⟨w.heap.size, 0, none⟩ (.int .u64 k.1)).setCell ⟨w.heap.size, 1, none⟩ (.int .i64 k.2)) := ((HB.out.1.trans ((HBW.out.mono HB.out.1.size).trans (HB2.out.mono (Nat.le_trans HB.out.1.size HBW.out.size)))).setCell (p := ⟨w.heap.size, 0, none⟩) (Nat.le_refl _) _).setCell (p := ⟨w.heap.size, 1, none⟩) (Nat.le_refl _) _
          revert kb3 b5
          generalize ((w2.setCell ⟨w.heap.size, 0, none⟩ (.int .u64 k.1)).setCell ⟨w.heap.size, 1, none⟩ (.int .i64 k.2)) = W3
          intro kb3 b5
          have m0 : W3.cell? ⟨w.heap.size, 0, none⟩ = some (.int .u64 k.1) := kb3.get 0 rfl
          have m1 : W3.cell? ⟨w.heap.size, 1, none⟩ = some (.int .i64 k.2) := kb3.get 1 rfl
          have hfe : findTo m t.items = some k := by
            rw [← HF.out.1]
            rw [show RB.items (.node b c (.nil) k v s r) = RB.items (.nil) ++ (k, v) :: RB.items r from rfl]
            rw [findTo_right HANY.out, findTo_here (of_decide_eq_true HV.out)]
          refine bodyPost_ret (by simp [results, Try.results74, go_sem, m0, m1]; try rfl) rfl ⟨?_, b5⟩
          rw [FindR, hfe]
          rfl
        | false =>
          clear f0 f1 n0 n1 kb2 bn c0 c1
          go_wp2
          go_roundg r.size
          case rel => exact ⟨r, _, rfl, rfl, rfl, HBW.out.trans (HB2.out.mono HBW.out.size), HU.out.2.2.below HB2.out, ⟨_, HF.out.2.2⟩, by
            rw [← HF.out.1]
            rw [show RB.items (.node b c (.nil) k v s r) = RB.items (.nil) ++ (k, v) :: RB.items r from rfl]
            rw [findTo_right HANY.out, findTo_not (of_decide_eq_false HV.out)]⟩
          case measure => simp only [RB.size] at hsz ⊢; omega

      | node bl cl ll kl vl sl rl =>
        have xl : wr.cell? ⟨b, 6, none⟩ = some (.pointer (some ⟨bl, 0, none⟩)) := HU.out.1.get 6 rfl
        have xs : wr.cell? ⟨bl, 3, none⟩ = some (.int .u64 sl.1) := HU.out.2.1.1.get 3 rfl
        have xs2 : wr.cell? ⟨bl, 4, none⟩ = some (.int .i64 sl.2) := HU.out.2.1.1.get 4 rfl
        go_wp2_with fail
        with_reducible refine (rh_ok B m sl _ (HOKB.out)).mono ?_
        rintro e wa ⟨rfl, hba⟩
        have HBA := Lib.hid hba
        obtain ⟨ba, hbba⟩ : ∃ x, okH m sl = x := ⟨_, rfl⟩
        rw [hbba]
        have HANY := Lib.hid ((okH_tree (m := m) HF.out.2.1).symm.trans hbba)
        clear hbba hba xl xs
        have xl : wa.cell? ⟨b, 6, none⟩ = some (.pointer (some ⟨bl, 0, none⟩)) := (HU.out.1.next HBA.out).get 6 rfl
        cases ba with
        | true =>
          go_wp2
          go_roundg (RB.size (.node bl cl ll kl vl sl rl))
          case rel => exact ⟨.node bl cl ll kl vl sl rl, _, rfl, rfl, rfl, HBW.out.trans (HBA.out.mono HBW.out.size), HU.out.2.1.below HBA.out, ⟨_, HF.out.2.1⟩, by
            rw [← HF.out.1]
            rw [show RB.items (.node b c (.node bl cl ll kl vl sl rl) k v s r) = RB.items (.node bl cl ll kl vl sl rl) ++ (k, v) :: RB.items r from rfl]
            rw [findTo_left HANY.out]⟩
          case measure => simp only [RB.size] at hsz ⊢; omega
        | false =>
          clear xl
          have HXX := Lib.hid (HBA.out)
          have KP : Hid (∀ w', Below (wa.heap.size) wa w' → (w'.cell? ⟨T, 0, none⟩ = some ((.func (.func 86) #[] #[])) ∧ w'.cell? ⟨b, 0, none⟩ = some (.int .u64 k.1) ∧ w'.cell? ⟨b, 1, none⟩ = some (.int .i64 k.2) ∧ w'.cell? ⟨b, 2, none⟩ = some (.int .u64 v)) ∧ Below (wa.heap.size) wa w') := fun w' hb => ⟨⟨((HTR.out.below HXX.out).below hb).c0, ((HU.out.1.next HXX.out).next hb).get 0 rfl, ((HU.out.1.next HXX.out).next hb).get 1 rfl, ((HU.out.1.next HXX.out).next hb).get 2 rfl⟩, hb⟩
          go_upto_region 8 with (fail)
          refine wp_region_noPanic ?_
          refine wp_region_held_drew (S := fun w' => (w'.cell? ⟨T, 0, none⟩ = some ((.func (.func 86) #[] #[])) ∧ w'.cell? ⟨b, 0, none⟩ = some (.int .u64 k.1) ∧ w'.cell? ⟨b, 1, none⟩ = some (.int .i64 k.2) ∧ w'.cell? ⟨b, 2, none⟩ = some (.int .u64 v)) ∧ Below (wa.heap.size) wa w') (by kernel_rfl) (KP.out _ (below_of_drew ((Below.refl wa.heap.size wa)))) (fun hH => ?_)
          first | (refine wpAnyH_take (i := 0) (v := undef) rfl ?_ ?_ ?_ (fun _ _ _ h => h) ?_ ?_ ?_; kernel_rfl; kernel_rfl; kernel_rfl; exact Or.inr ⟨by rfl, rfl⟩; exact hH) | (refine wpAnyH_take (i := 0) (v := ?_) rfl ?_ ?_ ?_ (fun _ _ _ h => h) ?_ ?_ ?_; rotate_left; kernel_rfl; kernel_rfl; kernel_rfl; (focus (refine Or.inl ⟨by rfl, ?_⟩; intro w' hSw; (try dsimp only at hSw); go_simp)); exact hH) | (refine wpAnyH_take (i := 0) (v := ?_) rfl ?_ ?_ ?_ (fun _ _ _ h => h) ?_ ?_ ?_; rotate_left; kernel_rfl; kernel_rfl; kernel_rfl; (focus (refine Or.inl ⟨by rfl, ?_⟩; intro w' hSw; (try dsimp only at hSw); go_simp; with_reducible rfl)); exact hH)
          try simp only [Act.put, List.getElem_toArray, List.getElem_cons_succ, List.getElem_cons_zero, List.setIfInBounds_toArray, List.set_cons_zero, List.set_cons_succ]
          first | (refine wpAnyH_take (i := 1) (v := undef) rfl ?_ ?_ ?_ (fun _ _ _ h => h) ?_ ?_ ?_; kernel_rfl; kernel_rfl; kernel_rfl; exact Or.inr ⟨by rfl, rfl⟩; exact hH) | (refine wpAnyH_take (i := 1) (v := ?_) rfl ?_ ?_ ?_ (fun _ _ _ h => h) ?_ ?_ ?_; rotate_left; kernel_rfl; kernel_rfl; kernel_rfl; (focus (refine Or.inl ⟨by rfl, ?_⟩; intro w' hSw; (try dsimp only at hSw); go_simp)); exact hH) | (refine wpAnyH_take (i := 1) (v := ?_) rfl ?_ ?_ ?_ (fun _ _ _ h => h) ?_ ?_ ?_; rotate_left; kernel_rfl; kernel_rfl; kernel_rfl; (focus (refine Or.inl ⟨by rfl, ?_⟩; intro w' hSw; (try dsimp only at hSw); go_simp; with_reducible rfl)); exact hH)
          try simp only [Act.put, List.getElem_toArray, List.getElem_cons_succ, List.getElem_cons_zero, List.setIfInBounds_toArray, List.set_cons_zero, List.set_cons_succ]
          first | (refine wpAnyH_take (i := 2) (v := undef) rfl ?_ ?_ ?_ (fun _ _ _ h => h) ?_ ?_ ?_; kernel_rfl; kernel_rfl; kernel_rfl; exact Or.inr ⟨by rfl, rfl⟩; exact hH) | (refine wpAnyH_take (i := 2) (v := ?_) rfl ?_ ?_ ?_ (fun _ _ _ h => h) ?_ ?_ ?_; rotate_left; kernel_rfl; kernel_rfl; kernel_rfl; (focus (refine Or.inl ⟨by rfl, ?_⟩; intro w' hSw; (try dsimp only at hSw); go_simp)); exact hH) | (refine wpAnyH_take (i := 2) (v := ?_) rfl ?_ ?_ ?_ (fun _ _ _ h => h) ?_ ?_ ?_; rotate_left; kernel_rfl; kernel_rfl; kernel_rfl; (focus (refine Or.inl ⟨by rfl, ?_⟩; intro w' hSw; (try dsimp only at hSw); go_simp; with_reducible rfl)); exact hH)
          try simp only [Act.put, List.getElem_toArray, List.getElem_cons_succ, List.getElem_cons_zero, List.setIfInBounds_toArray, List.set_cons_zero, List.set_cons_succ]
          first | (refine wpAnyH_take (i := 3) (v := undef) rfl ?_ ?_ ?_ (fun _ _ _ h => h) ?_ ?_ ?_; kernel_rfl; kernel_rfl; kernel_rfl; exact Or.inr ⟨by rfl, rfl⟩; exact hH) | (refine wpAnyH_take (i := 3) (v := ?_) rfl ?_ ?_ ?_ (fun _ _ _ h => h) ?_ ?_ ?_; rotate_left; kernel_rfl; kernel_rfl; kernel_rfl; (focus (refine Or.inl ⟨by rfl, ?_⟩; intro w' hSw; (try dsimp only at hSw); go_simp)); exact hH) | (refine wpAnyH_take (i := 3) (v := ?_) rfl ?_ ?_ ?_ (fun _ _ _ h => h) ?_ ?_ ?_; rotate_left; kernel_rfl; kernel_rfl; kernel_rfl; (focus (refine Or.inl ⟨by rfl, ?_⟩; intro w' hSw; (try dsimp only at hSw); go_simp; with_reducible rfl)); exact hH)
          try simp only [Act.put, List.getElem_toArray, List.getElem_cons_succ, List.getElem_cons_zero, List.setIfInBounds_toArray, List.set_cons_zero, List.set_cons_succ]
          first | (refine wpAnyH_take (i := 4) (v := undef) rfl ?_ ?_ ?_ (fun _ _ _ h => h) ?_ ?_ ?_; kernel_rfl; kernel_rfl; kernel_rfl; exact Or.inr ⟨by rfl, rfl⟩; exact hH) | (refine wpAnyH_take (i := 4) (v := ?_) rfl ?_ ?_ ?_ (fun _ _ _ h => h) ?_ ?_ ?_; rotate_left; kernel_rfl; kernel_rfl; kernel_rfl; (focus (refine Or.inl ⟨by rfl, ?_⟩; intro w' hSw; (try dsimp only at hSw); go_simp)); exact hH) | (refine wpAnyH_take (i := 4) (v := ?_) rfl ?_ ?_ ?_ (fun _ _ _ h => h) ?_ ?_ ?_; rotate_left; kernel_rfl; kernel_rfl; kernel_rfl; (focus (refine Or.inl ⟨by rfl, ?_⟩; intro w' hSw; (try dsimp only at hSw); go_simp; with_reducible rfl)); exact hH)
          try simp only [Act.put, List.getElem_toArray, List.getElem_cons_succ, List.getElem_cons_zero, List.setIfInBounds_toArray, List.set_cons_zero, List.set_cons_succ]
          first | (refine wpAnyH_take (i := 5) (v := undef) rfl ?_ ?_ ?_ (fun _ _ _ h => h) ?_ ?_ ?_; kernel_rfl; kernel_rfl; kernel_rfl; exact Or.inr ⟨by rfl, rfl⟩; exact hH) | (refine wpAnyH_take (i := 5) (v := ?_) rfl ?_ ?_ ?_ (fun _ _ _ h => h) ?_ ?_ ?_; rotate_left; kernel_rfl; kernel_rfl; kernel_rfl; (focus (refine Or.inl ⟨by rfl, ?_⟩; intro w' hSw; (try dsimp only at hSw); go_simp)); exact hH) | (refine wpAnyH_take (i := 5) (v := ?_) rfl ?_ ?_ ?_ (fun _ _ _ h => h) ?_ ?_ ?_; rotate_left; kernel_rfl; kernel_rfl; kernel_rfl; (focus (refine Or.inl ⟨by rfl, ?_⟩; intro w' hSw; (try dsimp only at hSw); go_simp; with_reducible rfl)); exact hH)
          try simp only [Act.put, List.getElem_toArray, List.getElem_cons_succ, List.getElem_cons_zero, List.setIfInBounds_toArray, List.set_cons_zero, List.set_cons_succ]
          first | (refine wpAnyH_take (i := 6) (v := undef) rfl ?_ ?_ ?_ (fun _ _ _ h => h) ?_ ?_ ?_; kernel_rfl; kernel_rfl; kernel_rfl; exact Or.inr ⟨by rfl, rfl⟩; exact hH) | (refine wpAnyH_take (i := 6) (v := ?_) rfl ?_ ?_ ?_ (fun _ _ _ h => h) ?_ ?_ ?_; rotate_left; kernel_rfl; kernel_rfl; kernel_rfl; (focus (refine Or.inl ⟨by rfl, ?_⟩; intro w' hSw; (try dsimp only at hSw); go_simp)); exact hH) | (refine wpAnyH_take (i := 6) (v := ?_) rfl ?_ ?_ ?_ (fun _ _ _ h => h) ?_ ?_ ?_; rotate_left; kernel_rfl; kernel_rfl; kernel_rfl; (focus (refine Or.inl ⟨by rfl, ?_⟩; intro w' hSw; (try dsimp only at hSw); go_simp; with_reducible rfl)); exact hH)
          try simp only [Act.put, List.getElem_toArray, List.getElem_cons_succ, List.getElem_cons_zero, List.setIfInBounds_toArray, List.set_cons_zero, List.set_cons_succ]
          first | (refine wpAnyH_take (i := 7) (v := undef) rfl ?_ ?_ ?_ (fun _ _ _ h => h) ?_ ?_ ?_; kernel_rfl; kernel_rfl; kernel_rfl; exact Or.inr ⟨by rfl, rfl⟩; exact hH) | (refine wpAnyH_take (i := 7) (v := ?_) rfl ?_ ?_ ?_ (fun _ _ _ h => h) ?_ ?_ ?_; rotate_left; kernel_rfl; kernel_rfl; kernel_rfl; (focus (refine Or.inl ⟨by rfl, ?_⟩; intro w' hSw; (try dsimp only at hSw); go_simp)); exact hH) | (refine wpAnyH_take (i := 7) (v := ?_) rfl ?_ ?_ ?_ (fun _ _ _ h => h) ?_ ?_ ?_; rotate_left; kernel_rfl; kernel_rfl; kernel_rfl; (focus (refine Or.inl ⟨by rfl, ?_⟩; intro w' hSw; (try dsimp only at hSw); go_simp; with_reducible rfl)); exact hH)
          try simp only [Act.put, List.getElem_toArray, List.getElem_cons_succ, List.getElem_cons_zero, List.setIfInBounds_toArray, List.set_cons_zero, List.set_cons_succ]
          first | (refine wpAnyH_take (i := 8) (v := undef) rfl ?_ ?_ ?_ (fun _ _ _ h => h) ?_ ?_ ?_; kernel_rfl; kernel_rfl; kernel_rfl; exact Or.inr ⟨by rfl, rfl⟩; exact hH) | (refine wpAnyH_take (i := 8) (v := ?_) rfl ?_ ?_ ?_ (fun _ _ _ h => h) ?_ ?_ ?_; rotate_left; kernel_rfl; kernel_rfl; kernel_rfl; (focus (refine Or.inl ⟨by rfl, ?_⟩; intro w' hSw; (try dsimp only at hSw); go_simp)); exact hH) | (refine wpAnyH_take (i := 8) (v := ?_) rfl ?_ ?_ ?_ (fun _ _ _ h => h) ?_ ?_ ?_; rotate_left; kernel_rfl; kernel_rfl; kernel_rfl; (focus (refine Or.inl ⟨by rfl, ?_⟩; intro w' hSw; (try dsimp only at hSw); go_simp; with_reducible rfl)); exact hH)
          try simp only [Act.put, List.getElem_toArray, List.getElem_cons_succ, List.getElem_cons_zero, List.setIfInBounds_toArray, List.set_cons_zero, List.set_cons_succ]
          first | (refine wpAnyH_take (i := 9) (v := undef) rfl ?_ ?_ ?_ (fun _ _ _ h => h) ?_ ?_ ?_; kernel_rfl; kernel_rfl; kernel_rfl; exact Or.inr ⟨by rfl, rfl⟩; exact hH) | (refine wpAnyH_take (i := 9) (v := ?_) rfl ?_ ?_ ?_ (fun _ _ _ h => h) ?_ ?_ ?_; rotate_left; kernel_rfl; kernel_rfl; kernel_rfl; (focus (refine Or.inl ⟨by rfl, ?_⟩; intro w' hSw; (try dsimp only at hSw); go_simp)); exact hH) | (refine wpAnyH_take (i := 9) (v := ?_) rfl ?_ ?_ ?_ (fun _ _ _ h => h) ?_ ?_ ?_; rotate_left; kernel_rfl; kernel_rfl; kernel_rfl; (focus (refine Or.inl ⟨by rfl, ?_⟩; intro w' hSw; (try dsimp only at hSw); go_simp; with_reducible rfl)); exact hH)
          try simp only [Act.put, List.getElem_toArray, List.getElem_cons_succ, List.getElem_cons_zero, List.setIfInBounds_toArray, List.set_cons_zero, List.set_cons_succ]
          first | (refine wpAnyH_take (i := 10) (v := undef) rfl ?_ ?_ ?_ (fun _ _ _ h => h) ?_ ?_ ?_; kernel_rfl; kernel_rfl; kernel_rfl; exact Or.inr ⟨by rfl, rfl⟩; exact hH) | (refine wpAnyH_take (i := 10) (v := ?_) rfl ?_ ?_ ?_ (fun _ _ _ h => h) ?_ ?_ ?_; rotate_left; kernel_rfl; kernel_rfl; kernel_rfl; (focus (refine Or.inl ⟨by rfl, ?_⟩; intro w' hSw; (try dsimp only at hSw); go_simp)); exact hH) | (refine wpAnyH_take (i := 10) (v := ?_) rfl ?_ ?_ ?_ (fun _ _ _ h => h) ?_ ?_ ?_; rotate_left; kernel_rfl; kernel_rfl; kernel_rfl; (focus (refine Or.inl ⟨by rfl, ?_⟩; intro w' hSw; (try dsimp only at hSw); go_simp; with_reducible rfl)); exact hH)
          try simp only [Act.put, List.getElem_toArray, List.getElem_cons_succ, List.getElem_cons_zero, List.setIfInBounds_toArray, List.set_cons_zero, List.set_cons_succ]
          first | (refine wpAnyH_take (i := 11) (v := undef) rfl ?_ ?_ ?_ (fun _ _ _ h => h) ?_ ?_ ?_; kernel_rfl; kernel_rfl; kernel_rfl; exact Or.inr ⟨by rfl, rfl⟩; exact hH) | (refine wpAnyH_take (i := 11) (v := ?_) rfl ?_ ?_ ?_ (fun _ _ _ h => h) ?_ ?_ ?_; rotate_left; kernel_rfl; kernel_rfl; kernel_rfl; (focus (refine Or.inl ⟨by rfl, ?_⟩; intro w' hSw; (try dsimp only at hSw); go_simp)); exact hH) | (refine wpAnyH_take (i := 11) (v := ?_) rfl ?_ ?_ ?_ (fun _ _ _ h => h) ?_ ?_ ?_; rotate_left; kernel_rfl; kernel_rfl; kernel_rfl; (focus (refine Or.inl ⟨by rfl, ?_⟩; intro w' hSw; (try dsimp only at hSw); go_simp; with_reducible rfl)); exact hH)
          try simp only [Act.put, List.getElem_toArray, List.getElem_cons_succ, List.getElem_cons_zero, List.setIfInBounds_toArray, List.set_cons_zero, List.set_cons_succ]
          first | (refine wpAnyH_take (i := 12) (v := undef) rfl ?_ ?_ ?_ (fun _ _ _ h => h) ?_ ?_ ?_; kernel_rfl; kernel_rfl; kernel_rfl; exact Or.inr ⟨by rfl, rfl⟩; exact hH) | (refine wpAnyH_take (i := 12) (v := ?_) rfl ?_ ?_ ?_ (fun _ _ _ h => h) ?_ ?_ ?_; rotate_left; kernel_rfl; kernel_rfl; kernel_rfl; (focus (refine Or.inl ⟨by rfl, ?_⟩; intro w' hSw; (try dsimp only at hSw); go_simp)); exact hH) | (refine wpAnyH_take (i := 12) (v := ?_) rfl ?_ ?_ ?_ (fun _ _ _ h => h) ?_ ?_ ?_; rotate_left; kernel_rfl; kernel_rfl; kernel_rfl; (focus (refine Or.inl ⟨by rfl, ?_⟩; intro w' hSw; (try dsimp only at hSw); go_simp; with_reducible rfl)); exact hH)
          try simp only [Act.put, List.getElem_toArray, List.getElem_cons_succ, List.getElem_cons_zero, List.setIfInBounds_toArray, List.set_cons_zero, List.set_cons_succ]
          refine wpAnyH_ready (rs := [13]) (by kernel_rfl) (by simp) ?_
          refine AllReadyH.cons rfl (fun K hK => ?_) AllReadyH.nil
          go_simp
          with_reducible refine (rh_of k v _).mono ?_
          rintro e w1 ⟨rfl, hb1'⟩
          have hb1 : Below wa.heap.size wa w1 := below_next hH.2 hb1'
          try go_wp2_with fail
          refine hK.out _ _ (KP.out _ hb1) (fun hH1 => ?_)
          clear hK K hH
          have hH := hH1
          clear hH1
          try simp only [Act.put, List.getElem_toArray, List.getElem_cons_succ, List.getElem_cons_zero, List.setIfInBounds_toArray, List.set_cons_zero, List.set_cons_succ]
          refine wpAnyH_ready (rs := [14]) (by kernel_rfl) (by simp) ?_
          refine AllReadyH.cons rfl (fun K hK => ?_) AllReadyH.nil
          go_simp
          with_reducible refine (rh_ok B m _ _ (((HOKB.out.next HXX.out).next hH.2))).mono ?_
          rintro e w2 ⟨rfl, hb2'⟩
          have hb2 : Below wa.heap.size wa w2 := below_next hH.2 hb2'
          try go_wp2_with fail
          refine hK.out _ _ (KP.out _ hb2) (fun hH2 => ?_)
          clear hK K hH
          have hH := hH2
          clear hH2
          try simp only [Act.put, List.getElem_toArray, List.getElem_cons_succ, List.getElem_cons_zero, List.setIfInBounds_toArray, List.set_cons_zero, List.set_cons_succ]
          first | (refine wpAnyH_take (i := 15) (v := undef) rfl ?_ ?_ ?_ (fun _ _ _ h => h) ?_ ?_ ?_; kernel_rfl; kernel_rfl; kernel_rfl; exact Or.inr ⟨by rfl, rfl⟩; exact hH) | (refine wpAnyH_take (i := 15) (v := ?_) rfl ?_ ?_ ?_ (fun _ _ _ h => h) ?_ ?_ ?_; rotate_left; kernel_rfl; kernel_rfl; kernel_rfl; (focus (refine Or.inl ⟨by rfl, ?_⟩; intro w' hSw; (try dsimp only at hSw); go_simp)); exact hH) | (refine wpAnyH_take (i := 15) (v := ?_) rfl ?_ ?_ ?_ (fun _ _ _ h => h) ?_ ?_ ?_; rotate_left; kernel_rfl; kernel_rfl; kernel_rfl; (focus (refine Or.inl ⟨by rfl, ?_⟩; intro w' hSw; (try dsimp only at hSw); go_simp; with_reducible rfl)); exact hH)
          try simp only [Act.put, List.getElem_toArray, List.getElem_cons_succ, List.getElem_cons_zero, List.setIfInBounds_toArray, List.set_cons_zero, List.set_cons_succ]
          refine wpAnyH_done (by kernel_rfl) ?_ _
          refine NoPanic.normal ?_
          clear hH
          have HB2 := Lib.hid (below_next HXX.out hb2)
          clear hb1 hb2 hb1' hb2' KP
          obtain ⟨bb, hbb⟩ : ∃ x, okH m (ofH k v) = x := ⟨_, rfl⟩
          rw [hbb]
          have HV := Lib.hid (show decide (v ≤ m) = bb from (okH_of m k v).symm.trans hbb)
          clear hbb
          have kb2 := HKB.out.next HB2.out
          have bn := HU.out.1.next HB2.out
          have f0 := kb2.frozen 0
          have f1 := kb2.frozen 1
          have c0 := kb2.get 0 rfl
          have c1 := kb2.get 1 rfl
          have n0 := bn.get 0 rfl
          have n1 := bn.get 1 rfl
          have nr : w2.cell? ⟨b, 7, none⟩ = some (.pointer (ptrO r)) := by rw [← ptrV_eq]; exact bn.get 7 rfl
          cases bb with
          | true =>
            have HKB2 := Lib.hid kb2
            clear kb2 bn nr
            go_wp2
            have kb3 := (HKB2.out.put 0 (.int .u64 k.1)).put 1 (.int .i64 k.2)
            have b5 : Below w.heap.size w ((w2.setCell ⟨w.heap.size, 0, none⟩ (.int .u64 k.1)).setCell ⟨w.heap.size, 1, none⟩ (.int .i64 k.2)) := ((HB.out.1.trans ((HBW.out.mono HB.out.1.size).trans (HB2.out.mono (Nat.le_trans HB.out.1.size HBW.out.size)))).setCell (p := ⟨w.heap.size, 0, none⟩) (Nat.le_refl _) _).setCell (p := ⟨w.heap.size, 1, none⟩) (Nat.le_refl _) _
            revert kb3 b5
            generalize ((w2.setCell ⟨w.heap.size, 0, none⟩ (.int .u64 k.1)).setCell ⟨w.heap.size, 1, none⟩ (.int .i64 k.2)) = W3
            intro kb3 b5
            have m0 : W3.cell? ⟨w.heap.size, 0, none⟩ = some (.int .u64 k.1) := kb3.get 0 rfl
            have m1 : W3.cell? ⟨w.heap.size, 1, none⟩ = some (.int .i64 k.2) := kb3.get 1 rfl
            have hfe : findTo m t.items = some k := by
              rw [← HF.out.1]
              rw [show RB.items (.node b c (.node bl cl ll kl vl sl rl) k v s r) = RB.items (.node bl cl ll kl vl sl rl) ++ (k, v) :: RB.items r from rfl]
              rw [findTo_right HANY.out, findTo_here (of_decide_eq_true HV.out)]
            refine bodyPost_ret (by simp [results, Try.results74, go_sem, m0, m1]; try rfl) rfl ⟨?_, b5⟩
            rw [FindR, hfe]
            rfl
          | false =>
            clear f0 f1 n0 n1 kb2 bn c0 c1
            go_wp2
            go_roundg r.size
            case rel => exact ⟨r, _, rfl, rfl, rfl, HBW.out.trans (HB2.out.mono HBW.out.size), HU.out.2.2.below HB2.out, ⟨_, HF.out.2.2⟩, by
              rw [← HF.out.1]
              rw [show RB.items (.node b c (.node bl cl ll kl vl sl rl) k v s r) = RB.items (.node bl cl ll kl vl sl rl) ++ (k, v) :: RB.items r from rfl]
              rw [findTo_right HANY.out, findTo_not (of_decide_eq_false HV.out)]⟩
            case measure => simp only [RB.size] at hsz ⊢; omega


end Go.Proofs.Ytjlnbpomncglcaa
