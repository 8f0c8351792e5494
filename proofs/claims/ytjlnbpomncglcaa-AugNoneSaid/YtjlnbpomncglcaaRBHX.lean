/-
  Red-black trees in memory (h): the summary up to a number.
-/
import Derived.Test.YtjlnbpomncglcaaProg
import Derived.Test.YtjlnbpomncglcaaRBHW
namespace Go.Proofs.Ytjlnbpomncglcaa
set_option linter.unusedVariables false
set_option linter.unusedSimpArgs false
set_option maxRecDepth 100000
open Go.RowKit

theorem setCell_same {w : World} {b o : Nat} {v : Value} (h : w.cell? ⟨b, o, none⟩ = some v) : w.setCell ⟨b, o, none⟩ v = w := by
  unfold World.cell? at h
  unfold World.setCell
  cases hb : w.heap[b]? with
  | none => simp [hb] at h
  | some ob =>
    cases ob with
    | cells c t fz =>
      simp [hb] at h
      have e : c.setIfInBounds o v = c := by
        apply Array.ext_getElem?
        intro j
        rw [Array.getElem?_setIfInBounds]
        split
        · rename_i e
          subst e
          obtain ⟨h1, h2⟩ := Array.getElem?_eq_some_iff.1 h
          simp [h1, h2]
        · rfl
      have e2 : w.heap.modify b (fun | .cells c elem frozen => .cells (if (⟨b, o, none⟩ : Addr).spot.isSome then c else c.setIfInBounds (⟨b, o, none⟩ : Addr).off v) elem frozen | o => o) = w.heap := by
        apply Array.ext_getElem?
        intro j
        rw [Array.getElem?_modify]
        split
        · rename_i ej
          subst ej
          simp [hb, e]
        · rfl
      exact Eq.trans (b := { w with heap := w.heap }) (congrArg (fun x => ({ w with heap := x } : World)) e2) rfl
    | _ => simp [hb] at h

/-- The closure's variables: the tree, the sum so far, whether there is one. -/
def SumAtH (w : World) (B T : Nat) (x : Option (Int × Int)) : Prop := Blk w B 98 #[.pointer (some ⟨T, 0, none⟩)] ∧ Blk w (B + 1) 117 #[.int .u64 (x.getD (0, 0)).1, .int .i64 (x.getD (0, 0)).2] ∧ Blk w (B + 2) 4 #[.bool x.isSome]
theorem SumAtH.next {w w' : World} {B T : Nat} {x : Option (Int × Int)} (h : SumAtH w B T x) (hb : Below w.heap.size w w') : SumAtH w' B T x := ⟨h.1.next hb, h.2.1.next hb, h.2.2.next hb⟩
theorem SumAtH.set {w : World} {B T : Nat} {x : Option (Int × Int)} (h : SumAtH w B T x) (a : (Int × Int)) : SumAtH (((w.setCell ⟨B + 1, 0, none⟩ (.int .u64 a.1)).setCell ⟨B + 1, 1, none⟩ (.int .i64 a.2)).setCell ⟨B + 2, 0, none⟩ (.bool true)) B T (some a) ∧ Fr (fun j => j = B + 1 ∨ j = B + 2) w (((w.setCell ⟨B + 1, 0, none⟩ (.int .u64 a.1)).setCell ⟨B + 1, 1, none⟩ (.int .i64 a.2)).setCell ⟨B + 2, 0, none⟩ (.bool true)) :=
  ⟨⟨(((h.1).far (p := ⟨B + 1, 0, none⟩) (by simp) _).far (p := ⟨B + 1, 1, none⟩) (by simp) _).far (p := ⟨B + 2, 0, none⟩) (by simp) _, (((h.2.1).put 0 _).put 1 _).far (p := ⟨B + 2, 0, none⟩) (by simp) _, (((h.2.2).far (p := ⟨B + 1, 0, none⟩) (by simp) _).far (p := ⟨B + 1, 1, none⟩) (by simp) _).put 0 _⟩, (((Fr.refl (fun j => j = B + 1 ∨ j = B + 2) w).setCell (p := ⟨B + 1, 0, none⟩) (fun _ => Or.inl rfl) _).setCell (p := ⟨B + 1, 1, none⟩) (fun _ => Or.inl rfl) _).setCell (p := ⟨B + 2, 0, none⟩) (fun _ => Or.inr rfl) _⟩
set_option maxHeartbeats 4000000 in
theorem rh_take (B T : Nat) (x : Option (Int × Int)) (a : (Int × Int)) (w : World) (h : SumAtH w B T x) (hT : TreH w T) :
    Calls Try.prog 102 #[(.agg #[.int .u64 a.1, .int .i64 a.2]), .pointer (some ⟨B + 2, 0, none⟩), .pointer (some ⟨B, 0, none⟩), .pointer (some ⟨B + 1, 0, none⟩)] w fun e w' => e = .returned (.tuple #[]) ∧ SumAtH w' B T (some (more minH x a)) ∧ Fr (fun j => j = B + 1 ∨ j = B + 2) w w' := by
  have HH := Lib.hid h
  have HTT := Lib.hid hT
  clear h hT
  obtain ⟨w0, hw0⟩ : ∃ x, w.alloc (.cells #[.int .u64 a.1, .int .i64 a.2] 117) = x := ⟨_, rfl⟩
  have hb0 : Below w.heap.size w w0 := by rw [← hw0]; go_grown
  have ba : Blk w0 w.heap.size 117 #[.int .u64 a.1, .int .i64 a.2] := by rw [← hw0]; exact Blk.new w _ _
  have H0 := Lib.hid (And.intro (HH.out.next hb0) (And.intro hb0 ba))
  have HEQ := Lib.hid hw0
  clear hw0 hb0 ba
  cases x with
  | none =>
    go_enter Try.func102, Try.ntmps102
    go_upto_region 1 with (fail)
    rw [HEQ.out]
    have h1 := H0.out.1
    have ab := H0.out.2.2
    have cI := h1.2.2.get 0 rfl
    have cS := h1.2.1.get 0 rfl
    have cS2 := h1.2.1.get 1 rfl
    have fS := h1.2.1.frozen 0
    have fS2 := h1.2.1.frozen 1
    have fI := h1.2.2.frozen 0
    have a0 := ab.get 0 rfl
    have a1 := ab.get 1 rfl
    clear h1 ab
    go_wp2
    go_end0
    exact ⟨rfl, (H0.out.1.set a).1, (Fr.of_new H0.out.2.1).trans (H0.out.1.set a).2⟩
  | some s =>
    obtain ⟨y, hy⟩ : ∃ y, minH s a = y := ⟨_, rfl⟩
    have JC := Lib.hid (fun w => rh_join s a w)
    rw [hy] at JC
    rw [show more minH (some s) a = y from hy]
    clear hy
    go_enter Try.func102, Try.ntmps102
    go_upto_region 1 with (fail)
    rw [HEQ.out]
    have cI := H0.out.1.2.2.get 0 rfl
    go_upto_region 2 with (fail)
    clear cI
    have KP : Hid (∀ w', Below (w0.heap.size) w0 w' → (w'.cell? ⟨B, 0, none⟩ = some (.pointer (some ⟨T, 0, none⟩)) ∧ w'.cell? ⟨T, 1, none⟩ = some ((.func (.func 87) #[] #[])) ∧ w'.cell? ⟨B + 1, 0, none⟩ = some (.int .u64 s.1) ∧ w'.cell? ⟨B + 1, 1, none⟩ = some (.int .i64 s.2) ∧ w'.cell? ⟨w.heap.size, 0, none⟩ = some (.int .u64 a.1) ∧ w'.cell? ⟨w.heap.size, 1, none⟩ = some (.int .i64 a.2)) ∧ Below (w0.heap.size) w0 w') := fun w' hb => ⟨⟨(H0.out.1.1.next hb).get 0 rfl, ((HTT.out.below H0.out.2.1).below hb).c1, (H0.out.1.2.1.next hb).get 0 rfl, (H0.out.1.2.1.next hb).get 1 rfl, (H0.out.2.2.next hb).get 0 rfl, (H0.out.2.2.next hb).get 1 rfl⟩, hb⟩
    refine wp_region_noPanic ?_
    refine wp_region_Z [7] (fun w' => (w'.cell? ⟨B, 0, none⟩ = some (.pointer (some ⟨T, 0, none⟩)) ∧ w'.cell? ⟨T, 1, none⟩ = some ((.func (.func 87) #[] #[])) ∧ w'.cell? ⟨B + 1, 0, none⟩ = some (.int .u64 s.1) ∧ w'.cell? ⟨B + 1, 1, none⟩ = some (.int .i64 s.2) ∧ w'.cell? ⟨w.heap.size, 0, none⟩ = some (.int .u64 a.1) ∧ w'.cell? ⟨w.heap.size, 1, none⟩ = some (.int .i64 a.2)) ∧ Below (w0.heap.size) w0 w') (by kernel_rfl) (KP.out _ (below_of_drew (Below.refl w0.heap.size w0))) (fun hH => ?_)
    have ABb0 : Blk (w0).drew (w.heap.size) (117) #[.int .u64 a.1, .int .i64 a.2] := Blk.drew (H0.out.2.2)
    have hbR := below_of_drew (Below.refl w0.heap.size w0)
    first | (refine wpAnyZ_take (i := 0) (v := undef) rfl ?_ ?_ ?_ ?_ (fun _ _ _ h => h) ?_ ?_ ?_; kernel_rfl; kernel_rfl; kernel_rfl; kernel_rfl; exact Or.inr ⟨by rfl, rfl⟩; exact hH) | (refine wpAnyZ_take (i := 0) (v := ?_) rfl ?_ ?_ ?_ ?_ (fun _ _ _ h => h) ?_ ?_ ?_; rotate_left; kernel_rfl; kernel_rfl; kernel_rfl; kernel_rfl; (focus (refine Or.inl ⟨by rfl, ?_⟩; intro w' hSw; (try dsimp only at hSw); go_simp)); exact hH) | (refine wpAnyZ_take (i := 0) (v := ?_) rfl ?_ ?_ ?_ ?_ (fun _ _ _ h => h) ?_ ?_ ?_; rotate_left; kernel_rfl; kernel_rfl; kernel_rfl; kernel_rfl; (focus (refine Or.inl ⟨by rfl, ?_⟩; intro w' hSw; (try dsimp only at hSw); go_simp; with_reducible rfl)); exact hH)
    try simp only [Act.put, List.getElem_toArray, List.getElem_cons_succ, List.getElem_cons_zero, List.setIfInBounds_toArray, List.set_cons_zero, List.set_cons_succ]
    first | (refine wpAnyZ_take (i := 1) (v := undef) rfl ?_ ?_ ?_ ?_ (fun _ _ _ h => h) ?_ ?_ ?_; kernel_rfl; kernel_rfl; kernel_rfl; kernel_rfl; exact Or.inr ⟨by rfl, rfl⟩; exact hH) | (refine wpAnyZ_take (i := 1) (v := ?_) rfl ?_ ?_ ?_ ?_ (fun _ _ _ h => h) ?_ ?_ ?_; rotate_left; kernel_rfl; kernel_rfl; kernel_rfl; kernel_rfl; (focus (refine Or.inl ⟨by rfl, ?_⟩; intro w' hSw; (try dsimp only at hSw); go_simp)); exact hH) | (refine wpAnyZ_take (i := 1) (v := ?_) rfl ?_ ?_ ?_ ?_ (fun _ _ _ h => h) ?_ ?_ ?_; rotate_left; kernel_rfl; kernel_rfl; kernel_rfl; kernel_rfl; (focus (refine Or.inl ⟨by rfl, ?_⟩; intro w' hSw; (try dsimp only at hSw); go_simp; with_reducible rfl)); exact hH)
    try simp only [Act.put, List.getElem_toArray, List.getElem_cons_succ, List.getElem_cons_zero, List.setIfInBounds_toArray, List.set_cons_zero, List.set_cons_succ]
    first | (refine wpAnyZ_take (i := 2) (v := undef) rfl ?_ ?_ ?_ ?_ (fun _ _ _ h => h) ?_ ?_ ?_; kernel_rfl; kernel_rfl; kernel_rfl; kernel_rfl; exact Or.inr ⟨by rfl, rfl⟩; exact hH) | (refine wpAnyZ_take (i := 2) (v := ?_) rfl ?_ ?_ ?_ ?_ (fun _ _ _ h => h) ?_ ?_ ?_; rotate_left; kernel_rfl; kernel_rfl; kernel_rfl; kernel_rfl; (focus (refine Or.inl ⟨by rfl, ?_⟩; intro w' hSw; (try dsimp only at hSw); go_simp)); exact hH) | (refine wpAnyZ_take (i := 2) (v := ?_) rfl ?_ ?_ ?_ ?_ (fun _ _ _ h => h) ?_ ?_ ?_; rotate_left; kernel_rfl; kernel_rfl; kernel_rfl; kernel_rfl; (focus (refine Or.inl ⟨by rfl, ?_⟩; intro w' hSw; (try dsimp only at hSw); go_simp; with_reducible rfl)); exact hH)
    try simp only [Act.put, List.getElem_toArray, List.getElem_cons_succ, List.getElem_cons_zero, List.setIfInBounds_toArray, List.set_cons_zero, List.set_cons_succ]
    first | (refine wpAnyZ_take (i := 3) (v := undef) rfl ?_ ?_ ?_ ?_ (fun _ _ _ h => h) ?_ ?_ ?_; kernel_rfl; kernel_rfl; kernel_rfl; kernel_rfl; exact Or.inr ⟨by rfl, rfl⟩; exact hH) | (refine wpAnyZ_take (i := 3) (v := ?_) rfl ?_ ?_ ?_ ?_ (fun _ _ _ h => h) ?_ ?_ ?_; rotate_left; kernel_rfl; kernel_rfl; kernel_rfl; kernel_rfl; (focus (refine Or.inl ⟨by rfl, ?_⟩; intro w' hSw; (try dsimp only at hSw); go_simp)); exact hH) | (refine wpAnyZ_take (i := 3) (v := ?_) rfl ?_ ?_ ?_ ?_ (fun _ _ _ h => h) ?_ ?_ ?_; rotate_left; kernel_rfl; kernel_rfl; kernel_rfl; kernel_rfl; (focus (refine Or.inl ⟨by rfl, ?_⟩; intro w' hSw; (try dsimp only at hSw); go_simp; with_reducible rfl)); exact hH)
    try simp only [Act.put, List.getElem_toArray, List.getElem_cons_succ, List.getElem_cons_zero, List.setIfInBounds_toArray, List.set_cons_zero, List.set_cons_succ]
    first | (refine wpAnyZ_take (i := 4) (v := undef) rfl ?_ ?_ ?_ ?_ (fun _ _ _ h => h) ?_ ?_ ?_; kernel_rfl; kernel_rfl; kernel_rfl; kernel_rfl; exact Or.inr ⟨by rfl, rfl⟩; exact hH) | (refine wpAnyZ_take (i := 4) (v := ?_) rfl ?_ ?_ ?_ ?_ (fun _ _ _ h => h) ?_ ?_ ?_; rotate_left; kernel_rfl; kernel_rfl; kernel_rfl; kernel_rfl; (focus (refine Or.inl ⟨by rfl, ?_⟩; intro w' hSw; (try dsimp only at hSw); go_simp)); exact hH) | (refine wpAnyZ_take (i := 4) (v := ?_) rfl ?_ ?_ ?_ ?_ (fun _ _ _ h => h) ?_ ?_ ?_; rotate_left; kernel_rfl; kernel_rfl; kernel_rfl; kernel_rfl; (focus (refine Or.inl ⟨by rfl, ?_⟩; intro w' hSw; (try dsimp only at hSw); go_simp; with_reducible rfl)); exact hH)
    try simp only [Act.put, List.getElem_toArray, List.getElem_cons_succ, List.getElem_cons_zero, List.setIfInBounds_toArray, List.set_cons_zero, List.set_cons_succ]
    first | (refine wpAnyZ_take (i := 5) (v := undef) rfl ?_ ?_ ?_ ?_ (fun _ _ _ h => h) ?_ ?_ ?_; kernel_rfl; kernel_rfl; kernel_rfl; kernel_rfl; exact Or.inr ⟨by rfl, rfl⟩; exact hH) | (refine wpAnyZ_take (i := 5) (v := ?_) rfl ?_ ?_ ?_ ?_ (fun _ _ _ h => h) ?_ ?_ ?_; rotate_left; kernel_rfl; kernel_rfl; kernel_rfl; kernel_rfl; (focus (refine Or.inl ⟨by rfl, ?_⟩; intro w' hSw; (try dsimp only at hSw); go_simp)); exact hH) | (refine wpAnyZ_take (i := 5) (v := ?_) rfl ?_ ?_ ?_ ?_ (fun _ _ _ h => h) ?_ ?_ ?_; rotate_left; kernel_rfl; kernel_rfl; kernel_rfl; kernel_rfl; (focus (refine Or.inl ⟨by rfl, ?_⟩; intro w' hSw; (try dsimp only at hSw); go_simp; with_reducible rfl)); exact hH)
    try simp only [Act.put, List.getElem_toArray, List.getElem_cons_succ, List.getElem_cons_zero, List.setIfInBounds_toArray, List.set_cons_zero, List.set_cons_succ]
    refine wpAnyZ_ready (rs := [6]) (by kernel_rfl) (by simp) ?_
    refine (AllReadyZ.cons rfl (fun K hK => ?_) AllReadyZ.nil)
    go_simp
    with_reducible refine (JC.out _).mono ?_
    rintro e w1 ⟨rfl, hb1'⟩
    have hb1 : Below (w0.heap.size) w0 w1 := below_next hH.2 hb1'
    try go_wp2_with fail
    have ABb1 := Blk.next ABb0 hb1'
    have ABc10 : World.cell? w1 ⟨w.heap.size, 0, none⟩ = some (.int .u64 a.1) := Blk.get ABb1 0 rfl
    have ABf10 : World.frozen? w1 ⟨w.heap.size, 0, none⟩ = false := Blk.frozen ABb1 0
    have ABc11 : World.cell? w1 ⟨w.heap.size, 1, none⟩ = some (.int .i64 a.2) := Blk.get ABb1 1 rfl
    have ABf11 : World.frozen? w1 ⟨w.heap.size, 1, none⟩ = false := Blk.frozen ABb1 1
    have ABn1 := Blk.lt ABb1
    have hH1 := KP.out _ hb1
    refine hK.out _ _ (fun _ => hH1) ?_
    clear hK K hH
    have hH := hH1
    clear hH1
    try simp only [Act.put, List.getElem_toArray, List.getElem_cons_succ, List.getElem_cons_zero, List.setIfInBounds_toArray, List.set_cons_zero, List.set_cons_succ]
    refine wpAnyZ_ready (rs := [7]) (by kernel_rfl) (by simp) ?_
    refine (AllReadyZ.cons rfl (fun K hK => ?_) AllReadyZ.nil)
    go_simp
    have ABb2 := (Blk.put (Blk.put ABb1 0 (.int .u64 y.1)) 1 (.int .i64 y.2))
    refine hK.out _ _ (fun h => absurd (by simp) h) ?_
    clear hK K
    try simp only [Act.put, List.getElem_toArray, List.getElem_cons_succ, List.getElem_cons_zero, List.setIfInBounds_toArray, List.set_cons_zero, List.set_cons_succ]
    refine wpAnyZ_done (by kernel_rfl) ?_ _
    refine NoPanic.normal ?_
    have ab := ABb2
    have hbd : Below w.heap.size w (World.setCell (World.setCell w1 ⟨w.heap.size, 0, none⟩ (.int .u64 y.1)) ⟨w.heap.size, 1, none⟩ (.int .i64 y.2)) := ((H0.out.2.1.trans (hb1.mono H0.out.2.1.size)).setCell (p := ⟨w.heap.size, 0, none⟩) (Nat.le_refl _) _).setCell (p := ⟨w.heap.size, 1, none⟩) (Nat.le_refl _) _
    try clear hH
    obtain ⟨wd, hwd⟩ : ∃ x, x = (World.setCell (World.setCell w1 ⟨w.heap.size, 0, none⟩ (.int .u64 y.1)) ⟨w.heap.size, 1, none⟩ (.int .i64 y.2)) := ⟨_, rfl⟩
    rw [← hwd] at ab hbd ⊢
    clear hwd KP
    have h1 := HH.out.next hbd
    have HD := Lib.hid (And.intro hbd h1)
    have cI := h1.2.2.get 0 rfl
    have cS := h1.2.1.get 0 rfl
    have cS2 := h1.2.1.get 1 rfl
    have fS := h1.2.1.frozen 0
    have fS2 := h1.2.1.frozen 1
    have fI := h1.2.2.frozen 0
    have a0 := ab.get 0 rfl
    have a1 := ab.get 1 rfl
    clear h1 ab hbd
    go_wp2
    go_end0
    exact ⟨rfl, (HD.out.2.set _).1, (Fr.of_new HD.out.1).trans (HD.out.2.set _).2⟩
theorem sumxH {x : Option (Int × Int)} {b : Nat} {c : Bool} {l r : RB (Int × Int)} {k : RK} {v : Int} {s : (Int × Int)} {n : Nat} (h : RB.W ofH minH (.node b c l k v s r) n) : sumFrom ofH minH x (RB.items (.node b c l k v s r)) = some (more minH x s) := by
  have h1 := RB.W.sum minH_assoc h
  cases x with
  | none => exact h1
  | some a =>
    rw [sumFrom_some minH_assoc, h1]
    rfl
/-- The summary of those up to a number. -/
def uptoH (n : Int) (L : Row) : Option (Int × Int) := sumFrom ofH minH none (upTo n L)
set_option maxHeartbeats 16000000 in
theorem rh_upto (T : Nat) (t : RB (Int × Int)) (n : Int) (w : World) (h : TrIsH w T t) :
    Calls Try.prog 73 #[.pointer (some ⟨T, 0, none⟩), .int .u64 n] w fun e w' => e = .returned (.tuple #[(.agg #[.int .u64 ((uptoH n t.items).getD (0, 0)).1, .int .i64 ((uptoH n t.items).getD (0, 0)).2]), .bool (uptoH n t.items).isSome]) ∧ Below w.heap.size w w' := by
  have HT := Lib.hid h
  clear h
  go_enter Try.func73, Try.ntmps73
  go_upto_region 1 with (fail)
  obtain ⟨w0, hw0⟩ : ∃ x, ((w.alloc (.cells #[.pointer (some ⟨T, 0, none⟩)] 98)).alloc (.cells #[.int .u64 (0, 0).1, .int .i64 (0, 0).2] 117)).alloc (.cells #[.bool false] 4) = x := ⟨_, rfl⟩
  have bB : Blk w0 w.heap.size 98 #[.pointer (some ⟨T, 0, none⟩)] := by rw [← hw0]; exact ((Blk.new w _ _).alloc _).alloc _
  have bS : Blk w0 (w.heap.size + 1) 117 #[.int .u64 (0, 0).1, .int .i64 (0, 0).2] := by rw [← hw0]; exact (Blk.new_at (by simp)).alloc _
  have bI : Blk w0 (w.heap.size + 2) 4 #[.bool false] := by rw [← hw0]; exact Blk.new_at (by simp)
  have hb0 : Below w.heap.size w w0 := by rw [← hw0]; go_grown
  have HS0 : Hid (SumAtH w0 w.heap.size T none) := ⟨bB, bS, bI⟩
  have HB := Lib.hid hb0
  have HT0 := Lib.hid (HT.out.next hb0)
  have hsz : w0.heap.size = w.heap.size + 3 := by rw [← hw0]; simp
  have HSZ := Lib.hid hsz
  rw [hw0]
  clear hw0 bB bS bI hb0 hsz
  have xB := HS0.out.1.get 0 rfl
  go_wp2_with fail
  with_reducible refine (rh_none T w0 HT0.out.tre).mono ?_
  rintro e wx ⟨rfl, rfl⟩
  have x0 : w0.cell? ⟨T, 2, none⟩ = some (.pointer (ptrO t)) := by rw [← ptrV_eq]; exact HT0.out.blk.get 2 rfl
  go_wp2_with fail
  clear x0 xB
  have hlt : ∀ x ∈ t.blocks, x < w.heap.size := fun x hx => RepH.lt HT.out.rep x hx
  go_loopg [7] t.size (fun gk pv wr => ∃ (u : RB (Int × Int)) (p : Value) (x : Option (Int × Int)), p = pv ∧ u.size = gk ∧ p = .pointer (ptrO u) ∧ Fr (fun j => j = w.heap.size + 1 ∨ j = w.heap.size + 2) w0 wr ∧ RepH wr u ∧ (∀ x ∈ u.blocks, x < w.heap.size) ∧ (∃ n, RB.W ofH minH u n) ∧ Rises u.items ∧ SumAtH wr w.heap.size T x ∧ sumFrom ofH minH x (upTo n u.items) = uptoH n t.items)
  case atStart => exact ⟨t, _, none, rfl, rfl, rfl, Fr.refl _ _, HT0.out.rep, hlt, HT0.out.well, HT0.out.rises, HS0.out, rfl⟩
  case round =>
    obtain ⟨u, p, x, rfl, hsz, hpv, hfr, hu, hul, huw, huR, hsa, hsum⟩ := hrel
    have HFR := Lib.hid hfr
    have HSA := Lib.hid hsa
    have HTR : Hid (TreH wr T) := HT0.out.tre.fr hfr (by have := HT.out.blk.lt; show ¬ (_ ∨ _); omega)
    clear hfr hsa hlt
    cases u with
    | nil =>
      have hpv : p = .pointer none := hpv
      subst hpv
      have HF := Lib.hid (show x = uptoH n t.items from hsum)
      clear hu hul huw huR hsum
      have E1 : ∀ j, (wr.drewN j).setCell ⟨w.heap.size + 1, 0, none⟩ (.int .u64 (x.getD (0, 0)).1) = wr.drewN j := fun j => setCell_same (HSA.out.2.1.get 0 rfl)
      have E1' : ∀ j, (wr.drewN j).setCell ⟨w.heap.size + 1, 1, none⟩ (.int .i64 (x.getD (0, 0)).2) = wr.drewN j := fun j => setCell_same (HSA.out.2.1.get 1 rfl)
      have E2 : ∀ j, (wr.drewN j).setCell ⟨w.heap.size + 2, 0, none⟩ (.bool x.isSome) = wr.drewN j := fun j => setCell_same (HSA.out.2.2.get 0 rfl)
      have cS := HSA.out.2.1.get 0 rfl
      have cS2 := HSA.out.2.1.get 1 rfl
      have cI := HSA.out.2.2.get 0 rfl
      have fS := HSA.out.2.1.frozen 0
      have fS2 := HSA.out.2.1.frozen 1
      have fI := HSA.out.2.2.frozen 0
      go_upto_region 12 with (fail)
      go_wp2_with (go_quiet (fail))
      have m0 : (wr.drewN nq).cell? ⟨w.heap.size + 1, 0, none⟩ = some (.int .u64 (x.getD (0, 0)).1) := cS
      have m1 : (wr.drewN nq).cell? ⟨w.heap.size + 1, 1, none⟩ = some (.int .i64 (x.getD (0, 0)).2) := cS2
      have m2 : (wr.drewN nq).cell? ⟨w.heap.size + 2, 0, none⟩ = some (.bool x.isSome) := cI
      have hbe : Below w.heap.size w (wr.drewN nq) := (HB.out.trans (HFR.out.below (by have := HSZ.out; omega) (fun j hj hn => by rcases hn with rfl | rfl <;> omega))).trans (below_of_drewN _ _ _)
      rw [← HF.out]
      refine bodyPost_ret (by simp [results, Try.results73, go_sem, m0, m1, m2]; try rfl) rfl ⟨rfl, hbe⟩
    | node b c l k v s r =>
      rw [node_ptr] at hpv
      subst hpv
      have hu2 : Blk wr b 138 #[.int .u64 k.1, .int .i64 k.2, .int .u64 v, .int .u64 s.1, .int .i64 s.2, .bool c, ptrV l, ptrV r] ∧ RepH wr l ∧ RepH wr r := hu
      have HU := Lib.hid hu2
      obtain ⟨nw, hnw⟩ := huw
      obtain ⟨_, _, _, nm, hwl, hwr, _⟩ := hnw
      have hll : ∀ x ∈ l.blocks, x < w.heap.size := fun x hx => hul x (List.mem_cons_of_mem _ (List.mem_append.2 (Or.inl hx)))
      have hlr : ∀ x ∈ r.blocks, x < w.heap.size := fun x hx => hul x (List.mem_cons_of_mem _ (List.mem_append.2 (Or.inr hx)))
      have HF := Lib.hid (And.intro hsum (And.intro hwl (And.intro hwr (And.intro huR (And.intro hll (And.intro hlr (hul b (List.mem_cons_self ..))))))))
      clear hu hu2 hsum hwl hwr huR hll hlr hul
      have x0 : wr.cell? ⟨b, 0, none⟩ = some (.int .u64 k.1) := HU.out.1.get 0 rfl
      by_cases hkn : n < k.1
      · have d1 : decide (n < k.1) = true := decide_eq_true hkn
        have HKN := Lib.hid hkn
        clear hkn
        have xl : wr.cell? ⟨b, 6, none⟩ = some (.pointer (ptrO l)) := by rw [← ptrV_eq]; exact HU.out.1.get 6 rfl
        go_wp2
        go_roundg l.size
        case rel => exact ⟨l, _, x, rfl, rfl, rfl, HFR.out, HU.out.2.1, HF.out.2.2.2.2.1, ⟨_, HF.out.2.1⟩, HF.out.2.2.2.1.left, HSA.out, by
          rw [← HF.out.1]
          simp only [RB.items]
          rw [upTo_left HF.out.2.2.2.1 HKN.out]⟩
        case measure => simp only [RB.size] at hsz ⊢; omega
      · have d1 : decide (n < k.1) = false := decide_eq_false hkn
        have HKN := Lib.hid hkn
        clear hkn
        cases l with
        | nil =>
          have xl : wr.cell? ⟨b, 6, none⟩ = some (.pointer none) := HU.out.1.get 6 rfl
          go_upto_region 10 with (fail)
          clear x0 xl d1
          have HXX : Hid (Fr (fun j => j = w.heap.size + 1 ∨ j = w.heap.size + 2) wr wr) := Fr.refl _ _
          have HBX : Hid (b ≠ w.heap.size + 1 ∧ b ≠ w.heap.size + 2 ∧ T ≠ w.heap.size + 1 ∧ T ≠ w.heap.size + 2) := by have h1 := HF.out.2.2.2.2.2.2; have h2 := HT.out.blk.lt; exact ⟨by omega, by omega, by omega, by omega⟩
          have KQ : Hid (∀ w', Fr ((fun j => j = w.heap.size + 1 ∨ j = w.heap.size + 2)) wr w' → (w'.cell? ⟨w.heap.size, 0, none⟩ = some (.pointer (some ⟨T, 0, none⟩)) ∧ w'.cell? ⟨T, 0, none⟩ = some ((.func (.func 86) #[] #[])) ∧ w'.cell? ⟨b, 0, none⟩ = some (.int .u64 k.1) ∧ w'.cell? ⟨b, 1, none⟩ = some (.int .i64 k.2) ∧ w'.cell? ⟨b, 2, none⟩ = some (.int .u64 v)) ∧ Fr ((fun j => j = w.heap.size + 1 ∨ j = w.heap.size + 2)) wr w') := fun w' hb => ⟨⟨((HSA.out.1.fr hb (by show ¬ (_ ∨ _); omega)).get 0 rfl), (((HTR.out.fr HXX.out (by have := HBX.out; show ¬ (_ ∨ _); omega)).fr hb (by have := HBX.out; show ¬ (_ ∨ _); omega)).c0), (((HU.out.1.fr HXX.out (by have := HBX.out; show ¬ (_ ∨ _); omega)).fr hb (by have := HBX.out; show ¬ (_ ∨ _); omega)).get 0 rfl), (((HU.out.1.fr HXX.out (by have := HBX.out; show ¬ (_ ∨ _); omega)).fr hb (by have := HBX.out; show ¬ (_ ∨ _); omega)).get 1 rfl), (((HU.out.1.fr HXX.out (by have := HBX.out; show ¬ (_ ∨ _); omega)).fr hb (by have := HBX.out; show ¬ (_ ∨ _); omega)).get 2 rfl)⟩, hb⟩
          have HTX : Hid (TreH wr T) := HTR.out.fr HXX.out (by have := HBX.out; show ¬ (_ ∨ _); omega)
          refine wp_region_noPanic ?_
          refine wp_region_held_drew (S := fun w' => (w'.cell? ⟨w.heap.size, 0, none⟩ = some (.pointer (some ⟨T, 0, none⟩)) ∧ w'.cell? ⟨T, 0, none⟩ = some ((.func (.func 86) #[] #[])) ∧ w'.cell? ⟨b, 0, none⟩ = some (.int .u64 k.1) ∧ w'.cell? ⟨b, 1, none⟩ = some (.int .i64 k.2) ∧ w'.cell? ⟨b, 2, none⟩ = some (.int .u64 v)) ∧ Fr ((fun j => j = w.heap.size + 1 ∨ j = w.heap.size + 2)) wr w') (by kernel_rfl) (KQ.out _ (Fr.drew ((Fr.refl (fun j => j = w.heap.size + 1 ∨ j = w.heap.size + 2) wr)))) (fun hH => ?_)
          have hbR := Fr.drew ((Fr.refl (fun j => j = w.heap.size + 1 ∨ j = w.heap.size + 2) wr))
          first | (refine wpAnyH_take (i := 0) (v := undef) rfl ?_ ?_ ?_ (fun _ _ _ h => h) ?_ ?_ ?_; kernel_rfl; kernel_rfl; kernel_rfl; exact Or.inr ⟨by rfl, rfl⟩; exact hH) | (refine wpAnyH_take (i := 0) (v := ?_) rfl ?_ ?_ ?_ (fun _ _ _ h => h) ?_ ?_ ?_; rotate_left; kernel_rfl; kernel_rfl; kernel_rfl; (focus (refine Or.inl ⟨by rfl, ?_⟩; intro w' hSw; (try dsimp only at hSw); go_simp)); exact hH) | (refine wpAnyH_take (i := 0) (v := ?_) rfl ?_ ?_ ?_ (fun _ _ _ h => h) ?_ ?_ ?_; rotate_left; kernel_rfl; kernel_rfl; kernel_rfl; (focus (refine Or.inl ⟨by rfl, ?_⟩; intro w' hSw; (try dsimp only at hSw); go_simp; with_reducible rfl)); exact hH)
          try simp only [Act.put, List.getElem_toArray, List.getElem_cons_succ, List.getElem_cons_zero, List.setIfInBounds_toArray, List.set_cons_zero, List.set_cons_succ]
          first | (refine wpAnyH_take (i := 1) (v := undef) rfl ?_ ?_ ?_ (fun _ _ _ h => h) ?_ ?_ ?_; kernel_rfl; kernel_rfl; kernel_rfl; exact Or.inr ⟨by rfl, rfl⟩; exact hH) | (refine wpAnyH_take (i := 1) (v := ?_) rfl ?_ ?_ ?_ (fun _ _ _ h => h) ?_ ?_ ?_; rotate_left; kernel_rfl; kernel_rfl; kernel_rfl; (focus (refine Or.inl ⟨by rfl, ?_⟩; intro w' hSw; (try dsimp only at hSw); go_simp)); exact hH) | (refine wpAnyH_take (i := 1) (v := ?_) rfl ?_ ?_ ?_ (fun _ _ _ h => h) ?_ ?_ ?_; rotate_left; kernel_rfl; kernel_rfl; kernel_rfl; (focus (refine Or.inl ⟨by rfl, ?_⟩; intro w' hSw; (try dsimp only at hSw); go_simp; with_reducible rfl)); exact hH)
          try simp only [Act.put, List.getElem_toArray, List.getElem_cons_succ, List.getElem_cons_zero, List.setIfInBounds_toArray, List.set_cons_zero, List.set_cons_succ]
          first | (refine wpAnyH_take (i := 2) (v := undef) rfl ?_ ?_ ?_ (fun _ _ _ h => h) ?_ ?_ ?_; kernel_rfl; kernel_rfl; kernel_rfl; exact Or.inr ⟨by rfl, rfl⟩; exact hH) | (refine wpAnyH_take (i := 2) (v := ?_) rfl ?_ ?_ ?_ (fun _ _ _ h => h) ?_ ?_ ?_; rotate_left; kernel_rfl; kernel_rfl; kernel_rfl; (focus (refine Or.inl ⟨by rfl, ?_⟩; intro w' hSw; (try dsimp only at hSw); go_simp)); exact hH) | (refine wpAnyH_take (i := 2) (v := ?_) rfl ?_ ?_ ?_ (fun _ _ _ h => h) ?_ ?_ ?_; rotate_left; kernel_rfl; kernel_rfl; kernel_rfl; (focus (refine Or.inl ⟨by rfl, ?_⟩; intro w' hSw; (try dsimp only at hSw); go_simp; with_reducible rfl)); exact hH)
          try simp only [Act.put, List.getElem_toArray, List.getElem_cons_succ, List.getElem_cons_zero, List.setIfInBounds_toArray, List.set_cons_zero, List.set_cons_succ]
          first | (refine wpAnyH_take (i := 3) (v := undef) rfl ?_ ?_ ?_ (fun _ _ _ h => h) ?_ ?_ ?_; kernel_rfl; kernel_rfl; kernel_rfl; exact Or.inr ⟨by rfl, rfl⟩; exact hH) | (refine wpAnyH_take (i := 3) (v := ?_) rfl ?_ ?_ ?_ (fun _ _ _ h => h) ?_ ?_ ?_; rotate_left; kernel_rfl; kernel_rfl; kernel_rfl; (focus (refine Or.inl ⟨by rfl, ?_⟩; intro w' hSw; (try dsimp only at hSw); go_simp)); exact hH) | (refine wpAnyH_take (i := 3) (v := ?_) rfl ?_ ?_ ?_ (fun _ _ _ h => h) ?_ ?_ ?_; rotate_left; kernel_rfl; kernel_rfl; kernel_rfl; (focus (refine Or.inl ⟨by rfl, ?_⟩; intro w' hSw; (try dsimp only at hSw); go_simp; with_reducible rfl)); exact hH)
          try simp only [Act.put, List.getElem_toArray, List.getElem_cons_succ, List.getElem_cons_zero, List.setIfInBounds_toArray, List.set_cons_zero, List.set_cons_succ]
          first | (refine wpAnyH_take (i := 4) (v := undef) rfl ?_ ?_ ?_ (fun _ _ _ h => h) ?_ ?_ ?_; kernel_rfl; kernel_rfl; kernel_rfl; exact Or.inr ⟨by rfl, rfl⟩; exact hH) | (refine wpAnyH_take (i := 4) (v := ?_) rfl ?_ ?_ ?_ (fun _ _ _ h => h) ?_ ?_ ?_; rotate_left; kernel_rfl; kernel_rfl; kernel_rfl; (focus (refine Or.inl ⟨by rfl, ?_⟩; intro w' hSw; (try dsimp only at hSw); go_simp)); exact hH) | (refine wpAnyH_take (i := 4) (v := ?_) rfl ?_ ?_ ?_ (fun _ _ _ h => h) ?_ ?_ ?_; rotate_left; kernel_rfl; kernel_rfl; kernel_rfl; (focus (refine Or.inl ⟨by rfl, ?_⟩; intro w' hSw; (try dsimp only at hSw); go_simp; with_reducible rfl)); exact hH)
          try simp only [Act.put, List.getElem_toArray, List.getElem_cons_succ, List.getElem_cons_zero, List.setIfInBounds_toArray, List.set_cons_zero, List.set_cons_succ]
          first | (refine wpAnyH_take (i := 5) (v := undef) rfl ?_ ?_ ?_ (fun _ _ _ h => h) ?_ ?_ ?_; kernel_rfl; kernel_rfl; kernel_rfl; exact Or.inr ⟨by rfl, rfl⟩; exact hH) | (refine wpAnyH_take (i := 5) (v := ?_) rfl ?_ ?_ ?_ (fun _ _ _ h => h) ?_ ?_ ?_; rotate_left; kernel_rfl; kernel_rfl; kernel_rfl; (focus (refine Or.inl ⟨by rfl, ?_⟩; intro w' hSw; (try dsimp only at hSw); go_simp)); exact hH) | (refine wpAnyH_take (i := 5) (v := ?_) rfl ?_ ?_ ?_ (fun _ _ _ h => h) ?_ ?_ ?_; rotate_left; kernel_rfl; kernel_rfl; kernel_rfl; (focus (refine Or.inl ⟨by rfl, ?_⟩; intro w' hSw; (try dsimp only at hSw); go_simp; with_reducible rfl)); exact hH)
          try simp only [Act.put, List.getElem_toArray, List.getElem_cons_succ, List.getElem_cons_zero, List.setIfInBounds_toArray, List.set_cons_zero, List.set_cons_succ]
          first | (refine wpAnyH_take (i := 6) (v := undef) rfl ?_ ?_ ?_ (fun _ _ _ h => h) ?_ ?_ ?_; kernel_rfl; kernel_rfl; kernel_rfl; exact Or.inr ⟨by rfl, rfl⟩; exact hH) | (refine wpAnyH_take (i := 6) (v := ?_) rfl ?_ ?_ ?_ (fun _ _ _ h => h) ?_ ?_ ?_; rotate_left; kernel_rfl; kernel_rfl; kernel_rfl; (focus (refine Or.inl ⟨by rfl, ?_⟩; intro w' hSw; (try dsimp only at hSw); go_simp)); exact hH) | (refine wpAnyH_take (i := 6) (v := ?_) rfl ?_ ?_ ?_ (fun _ _ _ h => h) ?_ ?_ ?_; rotate_left; kernel_rfl; kernel_rfl; kernel_rfl; (focus (refine Or.inl ⟨by rfl, ?_⟩; intro w' hSw; (try dsimp only at hSw); go_simp; with_reducible rfl)); exact hH)
          try simp only [Act.put, List.getElem_toArray, List.getElem_cons_succ, List.getElem_cons_zero, List.setIfInBounds_toArray, List.set_cons_zero, List.set_cons_succ]
          first | (refine wpAnyH_take (i := 7) (v := undef) rfl ?_ ?_ ?_ (fun _ _ _ h => h) ?_ ?_ ?_; kernel_rfl; kernel_rfl; kernel_rfl; exact Or.inr ⟨by rfl, rfl⟩; exact hH) | (refine wpAnyH_take (i := 7) (v := ?_) rfl ?_ ?_ ?_ (fun _ _ _ h => h) ?_ ?_ ?_; rotate_left; kernel_rfl; kernel_rfl; kernel_rfl; (focus (refine Or.inl ⟨by rfl, ?_⟩; intro w' hSw; (try dsimp only at hSw); go_simp)); exact hH) | (refine wpAnyH_take (i := 7) (v := ?_) rfl ?_ ?_ ?_ (fun _ _ _ h => h) ?_ ?_ ?_; rotate_left; kernel_rfl; kernel_rfl; kernel_rfl; (focus (refine Or.inl ⟨by rfl, ?_⟩; intro w' hSw; (try dsimp only at hSw); go_simp; with_reducible rfl)); exact hH)
          try simp only [Act.put, List.getElem_toArray, List.getElem_cons_succ, List.getElem_cons_zero, List.setIfInBounds_toArray, List.set_cons_zero, List.set_cons_succ]
          first | (refine wpAnyH_take (i := 8) (v := undef) rfl ?_ ?_ ?_ (fun _ _ _ h => h) ?_ ?_ ?_; kernel_rfl; kernel_rfl; kernel_rfl; exact Or.inr ⟨by rfl, rfl⟩; exact hH) | (refine wpAnyH_take (i := 8) (v := ?_) rfl ?_ ?_ ?_ (fun _ _ _ h => h) ?_ ?_ ?_; rotate_left; kernel_rfl; kernel_rfl; kernel_rfl; (focus (refine Or.inl ⟨by rfl, ?_⟩; intro w' hSw; (try dsimp only at hSw); go_simp)); exact hH) | (refine wpAnyH_take (i := 8) (v := ?_) rfl ?_ ?_ ?_ (fun _ _ _ h => h) ?_ ?_ ?_; rotate_left; kernel_rfl; kernel_rfl; kernel_rfl; (focus (refine Or.inl ⟨by rfl, ?_⟩; intro w' hSw; (try dsimp only at hSw); go_simp; with_reducible rfl)); exact hH)
          try simp only [Act.put, List.getElem_toArray, List.getElem_cons_succ, List.getElem_cons_zero, List.setIfInBounds_toArray, List.set_cons_zero, List.set_cons_succ]
          first | (refine wpAnyH_take (i := 9) (v := undef) rfl ?_ ?_ ?_ (fun _ _ _ h => h) ?_ ?_ ?_; kernel_rfl; kernel_rfl; kernel_rfl; exact Or.inr ⟨by rfl, rfl⟩; exact hH) | (refine wpAnyH_take (i := 9) (v := ?_) rfl ?_ ?_ ?_ (fun _ _ _ h => h) ?_ ?_ ?_; rotate_left; kernel_rfl; kernel_rfl; kernel_rfl; (focus (refine Or.inl ⟨by rfl, ?_⟩; intro w' hSw; (try dsimp only at hSw); go_simp)); exact hH) | (refine wpAnyH_take (i := 9) (v := ?_) rfl ?_ ?_ ?_ (fun _ _ _ h => h) ?_ ?_ ?_; rotate_left; kernel_rfl; kernel_rfl; kernel_rfl; (focus (refine Or.inl ⟨by rfl, ?_⟩; intro w' hSw; (try dsimp only at hSw); go_simp; with_reducible rfl)); exact hH)
          try simp only [Act.put, List.getElem_toArray, List.getElem_cons_succ, List.getElem_cons_zero, List.setIfInBounds_toArray, List.set_cons_zero, List.set_cons_succ]
          first | (refine wpAnyH_take (i := 10) (v := undef) rfl ?_ ?_ ?_ (fun _ _ _ h => h) ?_ ?_ ?_; kernel_rfl; kernel_rfl; kernel_rfl; exact Or.inr ⟨by rfl, rfl⟩; exact hH) | (refine wpAnyH_take (i := 10) (v := ?_) rfl ?_ ?_ ?_ (fun _ _ _ h => h) ?_ ?_ ?_; rotate_left; kernel_rfl; kernel_rfl; kernel_rfl; (focus (refine Or.inl ⟨by rfl, ?_⟩; intro w' hSw; (try dsimp only at hSw); go_simp)); exact hH) | (refine wpAnyH_take (i := 10) (v := ?_) rfl ?_ ?_ ?_ (fun _ _ _ h => h) ?_ ?_ ?_; rotate_left; kernel_rfl; kernel_rfl; kernel_rfl; (focus (refine Or.inl ⟨by rfl, ?_⟩; intro w' hSw; (try dsimp only at hSw); go_simp; with_reducible rfl)); exact hH)
          try simp only [Act.put, List.getElem_toArray, List.getElem_cons_succ, List.getElem_cons_zero, List.setIfInBounds_toArray, List.set_cons_zero, List.set_cons_succ]
          first | (refine wpAnyH_take (i := 11) (v := undef) rfl ?_ ?_ ?_ (fun _ _ _ h => h) ?_ ?_ ?_; kernel_rfl; kernel_rfl; kernel_rfl; exact Or.inr ⟨by rfl, rfl⟩; exact hH) | (refine wpAnyH_take (i := 11) (v := ?_) rfl ?_ ?_ ?_ (fun _ _ _ h => h) ?_ ?_ ?_; rotate_left; kernel_rfl; kernel_rfl; kernel_rfl; (focus (refine Or.inl ⟨by rfl, ?_⟩; intro w' hSw; (try dsimp only at hSw); go_simp)); exact hH) | (refine wpAnyH_take (i := 11) (v := ?_) rfl ?_ ?_ ?_ (fun _ _ _ h => h) ?_ ?_ ?_; rotate_left; kernel_rfl; kernel_rfl; kernel_rfl; (focus (refine Or.inl ⟨by rfl, ?_⟩; intro w' hSw; (try dsimp only at hSw); go_simp; with_reducible rfl)); exact hH)
          try simp only [Act.put, List.getElem_toArray, List.getElem_cons_succ, List.getElem_cons_zero, List.setIfInBounds_toArray, List.set_cons_zero, List.set_cons_succ]
          first | (refine wpAnyH_take (i := 12) (v := undef) rfl ?_ ?_ ?_ (fun _ _ _ h => h) ?_ ?_ ?_; kernel_rfl; kernel_rfl; kernel_rfl; exact Or.inr ⟨by rfl, rfl⟩; exact hH) | (refine wpAnyH_take (i := 12) (v := ?_) rfl ?_ ?_ ?_ (fun _ _ _ h => h) ?_ ?_ ?_; rotate_left; kernel_rfl; kernel_rfl; kernel_rfl; (focus (refine Or.inl ⟨by rfl, ?_⟩; intro w' hSw; (try dsimp only at hSw); go_simp)); exact hH) | (refine wpAnyH_take (i := 12) (v := ?_) rfl ?_ ?_ ?_ (fun _ _ _ h => h) ?_ ?_ ?_; rotate_left; kernel_rfl; kernel_rfl; kernel_rfl; (focus (refine Or.inl ⟨by rfl, ?_⟩; intro w' hSw; (try dsimp only at hSw); go_simp; with_reducible rfl)); exact hH)
          try simp only [Act.put, List.getElem_toArray, List.getElem_cons_succ, List.getElem_cons_zero, List.setIfInBounds_toArray, List.set_cons_zero, List.set_cons_succ]
          refine wpAnyH_ready (rs := [13]) (by kernel_rfl) (by simp) ?_
          refine (AllReadyH.cons rfl (fun K hK => ?_) AllReadyH.nil)
          go_simp
          with_reducible refine (rh_of k v _).mono ?_
          rintro e w1 ⟨rfl, hb1⟩
          have fr1 : Fr (fun j => j = w.heap.size + 1 ∨ j = w.heap.size + 2) wr w1 := hH.2.trans (Fr.of_new hb1)
          have HB1 : Hid (Below wr.heap.size wr w1) := (below_of_drew (Below.refl wr.heap.size wr)).trans hb1
          clear hb1
          refine hK.out _ _ (KQ.out _ fr1) (fun hH1 => ?_)
          clear hK K hH
          have hH := hH1
          clear hH1
          try simp only [Act.put, List.getElem_toArray, List.getElem_cons_succ, List.getElem_cons_zero, List.setIfInBounds_toArray, List.set_cons_zero, List.set_cons_succ]
          refine wpAnyH_ready (rs := [14]) (by kernel_rfl) (by simp) ?_
          refine (AllReadyH.cons rfl (fun K hK => ?_) AllReadyH.nil)
          go_simp
          with_reducible refine (rh_take w.heap.size T x (ofH k v) _ (HSA.out.next HB1.out) (HTX.out.below HB1.out)).mono ?_
          rintro e w2 ⟨rfl, hsa2, hfa2⟩
          have fr2 : Fr (fun j => j = w.heap.size + 1 ∨ j = w.heap.size + 2) wr w2 := hH.2.trans hfa2
          have HS2 := Lib.hid hsa2
          clear hsa2 hfa2
          have FR2 : Hid (Fr (fun j => j = w.heap.size + 1 ∨ j = w.heap.size + 2) wr w2) := HXX.out.trans fr2
          have nr2 : w2.cell? ⟨b, 7, none⟩ = some (.pointer (ptrO r)) := by rw [← ptrV_eq]; exact (HU.out.1.fr FR2.out (by have := HBX.out; show ¬ (_ ∨ _); omega)).get 7 rfl
          refine hK.out _ _ (KQ.out _ fr2) (fun hH2 => ?_)
          clear hK K hH
          have hH := hH2
          clear hH2
          try simp only [Act.put, List.getElem_toArray, List.getElem_cons_succ, List.getElem_cons_zero, List.setIfInBounds_toArray, List.set_cons_zero, List.set_cons_succ]
          refine wpAnyH_done (by kernel_rfl) ?_ _
          refine NoPanic.normal ?_
          clear hH KQ
          go_wp2
          go_roundg r.size
          case rel => exact ⟨r, _, some (more minH x (ofH k v)), rfl, rfl, rfl, HFR.out.trans FR2.out, RepH.fr FR2.out HU.out.2.2 (fun x hx => by have := HF.out.2.2.2.2.2.1 x hx; show ¬ (_ ∨ _); omega), HF.out.2.2.2.2.2.1, ⟨_, HF.out.2.2.1⟩, (Rises.mid HF.out.2.2.2.1).2.2.2, HS2.out, by
            rw [← HF.out.1, show RB.items (.node b c (.nil) k v s r) = RB.items (.nil) ++ (k, v) :: RB.items r from rfl, upTo_right HF.out.2.2.2.1 (show ¬ n < k.1 by have := HKN.out; omega), sumFrom_append]
            rfl⟩
          case measure => simp only [RB.size] at hsz ⊢; omega

        | node bl cl ll kl vl sl rl =>
          have xl : wr.cell? ⟨b, 6, none⟩ = some (.pointer (some ⟨bl, 0, none⟩)) := HU.out.1.get 6 rfl
          have xs : wr.cell? ⟨bl, 3, none⟩ = some (.int .u64 sl.1) := HU.out.2.1.1.get 3 rfl
          have xs2 : wr.cell? ⟨bl, 4, none⟩ = some (.int .i64 sl.2) := HU.out.2.1.1.get 4 rfl
          go_wp2_with fail
          with_reducible refine (rh_take w.heap.size T x sl wr HSA.out HTR.out).mono ?_
          rintro e wa ⟨rfl, hsa, hfa⟩
          have HSA2 := Lib.hid hsa
          have HFA := Lib.hid hfa
          clear hsa hfa x0 xl xs d1
          go_upto_region 10 with (fail)
          have HXX : Hid (Fr (fun j => j = w.heap.size + 1 ∨ j = w.heap.size + 2) wr wa) := HFA.out
          have HBX : Hid (b ≠ w.heap.size + 1 ∧ b ≠ w.heap.size + 2 ∧ T ≠ w.heap.size + 1 ∧ T ≠ w.heap.size + 2) := by have h1 := HF.out.2.2.2.2.2.2; have h2 := HT.out.blk.lt; exact ⟨by omega, by omega, by omega, by omega⟩
          have KQ : Hid (∀ w', Fr ((fun j => j = w.heap.size + 1 ∨ j = w.heap.size + 2)) wa w' → (w'.cell? ⟨w.heap.size, 0, none⟩ = some (.pointer (some ⟨T, 0, none⟩)) ∧ w'.cell? ⟨T, 0, none⟩ = some ((.func (.func 86) #[] #[])) ∧ w'.cell? ⟨b, 0, none⟩ = some (.int .u64 k.1) ∧ w'.cell? ⟨b, 1, none⟩ = some (.int .i64 k.2) ∧ w'.cell? ⟨b, 2, none⟩ = some (.int .u64 v)) ∧ Fr ((fun j => j = w.heap.size + 1 ∨ j = w.heap.size + 2)) wa w') := fun w' hb => ⟨⟨((HSA2.out.1.fr hb (by show ¬ (_ ∨ _); omega)).get 0 rfl), (((HTR.out.fr HXX.out (by have := HBX.out; show ¬ (_ ∨ _); omega)).fr hb (by have := HBX.out; show ¬ (_ ∨ _); omega)).c0), (((HU.out.1.fr HXX.out (by have := HBX.out; show ¬ (_ ∨ _); omega)).fr hb (by have := HBX.out; show ¬ (_ ∨ _); omega)).get 0 rfl), (((HU.out.1.fr HXX.out (by have := HBX.out; show ¬ (_ ∨ _); omega)).fr hb (by have := HBX.out; show ¬ (_ ∨ _); omega)).get 1 rfl), (((HU.out.1.fr HXX.out (by have := HBX.out; show ¬ (_ ∨ _); omega)).fr hb (by have := HBX.out; show ¬ (_ ∨ _); omega)).get 2 rfl)⟩, hb⟩
          have HTX : Hid (TreH wa T) := HTR.out.fr HXX.out (by have := HBX.out; show ¬ (_ ∨ _); omega)
          refine wp_region_noPanic ?_
          refine wp_region_held_drew (S := fun w' => (w'.cell? ⟨w.heap.size, 0, none⟩ = some (.pointer (some ⟨T, 0, none⟩)) ∧ w'.cell? ⟨T, 0, none⟩ = some ((.func (.func 86) #[] #[])) ∧ w'.cell? ⟨b, 0, none⟩ = some (.int .u64 k.1) ∧ w'.cell? ⟨b, 1, none⟩ = some (.int .i64 k.2) ∧ w'.cell? ⟨b, 2, none⟩ = some (.int .u64 v)) ∧ Fr ((fun j => j = w.heap.size + 1 ∨ j = w.heap.size + 2)) wa w') (by kernel_rfl) (KQ.out _ (Fr.drew ((Fr.refl (fun j => j = w.heap.size + 1 ∨ j = w.heap.size + 2) wa)))) (fun hH => ?_)
          have hbR := Fr.drew ((Fr.refl (fun j => j = w.heap.size + 1 ∨ j = w.heap.size + 2) wa))
          first | (refine wpAnyH_take (i := 0) (v := undef) rfl ?_ ?_ ?_ (fun _ _ _ h => h) ?_ ?_ ?_; kernel_rfl; kernel_rfl; kernel_rfl; exact Or.inr ⟨by rfl, rfl⟩; exact hH) | (refine wpAnyH_take (i := 0) (v := ?_) rfl ?_ ?_ ?_ (fun _ _ _ h => h) ?_ ?_ ?_; rotate_left; kernel_rfl; kernel_rfl; kernel_rfl; (focus (refine Or.inl ⟨by rfl, ?_⟩; intro w' hSw; (try dsimp only at hSw); go_simp)); exact hH) | (refine wpAnyH_take (i := 0) (v := ?_) rfl ?_ ?_ ?_ (fun _ _ _ h => h) ?_ ?_ ?_; rotate_left; kernel_rfl; kernel_rfl; kernel_rfl; (focus (refine Or.inl ⟨by rfl, ?_⟩; intro w' hSw; (try dsimp only at hSw); go_simp; with_reducible rfl)); exact hH)
          try simp only [Act.put, List.getElem_toArray, List.getElem_cons_succ, List.getElem_cons_zero, List.setIfInBounds_toArray, List.set_cons_zero, List.set_cons_succ]
          first | (refine wpAnyH_take (i := 1) (v := undef) rfl ?_ ?_ ?_ (fun _ _ _ h => h) ?_ ?_ ?_; kernel_rfl; kernel_rfl; kernel_rfl; exact Or.inr ⟨by rfl, rfl⟩; exact hH) | (refine wpAnyH_take (i := 1) (v := ?_) rfl ?_ ?_ ?_ (fun _ _ _ h => h) ?_ ?_ ?_; rotate_left; kernel_rfl; kernel_rfl; kernel_rfl; (focus (refine Or.inl ⟨by rfl, ?_⟩; intro w' hSw; (try dsimp only at hSw); go_simp)); exact hH) | (refine wpAnyH_take (i := 1) (v := ?_) rfl ?_ ?_ ?_ (fun _ _ _ h => h) ?_ ?_ ?_; rotate_left; kernel_rfl; kernel_rfl; kernel_rfl; (focus (refine Or.inl ⟨by rfl, ?_⟩; intro w' hSw; (try dsimp only at hSw); go_simp; with_reducible rfl)); exact hH)
          try simp only [Act.put, List.getElem_toArray, List.getElem_cons_succ, List.getElem_cons_zero, List.setIfInBounds_toArray, List.set_cons_zero, List.set_cons_succ]
          first | (refine wpAnyH_take (i := 2) (v := undef) rfl ?_ ?_ ?_ (fun _ _ _ h => h) ?_ ?_ ?_; kernel_rfl; kernel_rfl; kernel_rfl; exact Or.inr ⟨by rfl, rfl⟩; exact hH) | (refine wpAnyH_take (i := 2) (v := ?_) rfl ?_ ?_ ?_ (fun _ _ _ h => h) ?_ ?_ ?_; rotate_left; kernel_rfl; kernel_rfl; kernel_rfl; (focus (refine Or.inl ⟨by rfl, ?_⟩; intro w' hSw; (try dsimp only at hSw); go_simp)); exact hH) | (refine wpAnyH_take (i := 2) (v := ?_) rfl ?_ ?_ ?_ (fun _ _ _ h => h) ?_ ?_ ?_; rotate_left; kernel_rfl; kernel_rfl; kernel_rfl; (focus (refine Or.inl ⟨by rfl, ?_⟩; intro w' hSw; (try dsimp only at hSw); go_simp; with_reducible rfl)); exact hH)
          try simp only [Act.put, List.getElem_toArray, List.getElem_cons_succ, List.getElem_cons_zero, List.setIfInBounds_toArray, List.set_cons_zero, List.set_cons_succ]
          first | (refine wpAnyH_take (i := 3) (v := undef) rfl ?_ ?_ ?_ (fun _ _ _ h => h) ?_ ?_ ?_; kernel_rfl; kernel_rfl; kernel_rfl; exact Or.inr ⟨by rfl, rfl⟩; exact hH) | (refine wpAnyH_take (i := 3) (v := ?_) rfl ?_ ?_ ?_ (fun _ _ _ h => h) ?_ ?_ ?_; rotate_left; kernel_rfl; kernel_rfl; kernel_rfl; (focus (refine Or.inl ⟨by rfl, ?_⟩; intro w' hSw; (try dsimp only at hSw); go_simp)); exact hH) | (refine wpAnyH_take (i := 3) (v := ?_) rfl ?_ ?_ ?_ (fun _ _ _ h => h) ?_ ?_ ?_; rotate_left; kernel_rfl; kernel_rfl; kernel_rfl; (focus (refine Or.inl ⟨by rfl, ?_⟩; intro w' hSw; (try dsimp only at hSw); go_simp; with_reducible rfl)); exact hH)
          try simp only [Act.put, List.getElem_toArray, List.getElem_cons_succ, List.getElem_cons_zero, List.setIfInBounds_toArray, List.set_cons_zero, List.set_cons_succ]
          first | (refine wpAnyH_take (i := 4) (v := undef) rfl ?_ ?_ ?_ (fun _ _ _ h => h) ?_ ?_ ?_; kernel_rfl; kernel_rfl; kernel_rfl; exact Or.inr ⟨by rfl, rfl⟩; exact hH) | (refine wpAnyH_take (i := 4) (v := ?_) rfl ?_ ?_ ?_ (fun _ _ _ h => h) ?_ ?_ ?_; rotate_left; kernel_rfl; kernel_rfl; kernel_rfl; (focus (refine Or.inl ⟨by rfl, ?_⟩; intro w' hSw; (try dsimp only at hSw); go_simp)); exact hH) | (refine wpAnyH_take (i := 4) (v := ?_) rfl ?_ ?_ ?_ (fun _ _ _ h => h) ?_ ?_ ?_; rotate_left; kernel_rfl; kernel_rfl; kernel_rfl; (focus (refine Or.inl ⟨by rfl, ?_⟩; intro w' hSw; (try dsimp only at hSw); go_simp; with_reducible rfl)); exact hH)
          try simp only [Act.put, List.getElem_toArray, List.getElem_cons_succ, List.getElem_cons_zero, List.setIfInBounds_toArray, List.set_cons_zero, List.set_cons_succ]
          first | (refine wpAnyH_take (i := 5) (v := undef) rfl ?_ ?_ ?_ (fun _ _ _ h => h) ?_ ?_ ?_; kernel_rfl; kernel_rfl; kernel_rfl; exact Or.inr ⟨by rfl, rfl⟩; exact hH) | (refine wpAnyH_take (i := 5) (v := ?_) rfl ?_ ?_ ?_ (fun _ _ _ h => h) ?_ ?_ ?_; rotate_left; kernel_rfl; kernel_rfl; kernel_rfl; (focus (refine Or.inl ⟨by rfl, ?_⟩; intro w' hSw; (try dsimp only at hSw); go_simp)); exact hH) | (refine wpAnyH_take (i := 5) (v := ?_) rfl ?_ ?_ ?_ (fun _ _ _ h => h) ?_ ?_ ?_; rotate_left; kernel_rfl; kernel_rfl; kernel_rfl; (focus (refine Or.inl ⟨by rfl, ?_⟩; intro w' hSw; (try dsimp only at hSw); go_simp; with_reducible rfl)); exact hH)
          try simp only [Act.put, List.getElem_toArray, List.getElem_cons_succ, List.getElem_cons_zero, List.setIfInBounds_toArray, List.set_cons_zero, List.set_cons_succ]
          first | (refine wpAnyH_take (i := 6) (v := undef) rfl ?_ ?_ ?_ (fun _ _ _ h => h) ?_ ?_ ?_; kernel_rfl; kernel_rfl; kernel_rfl; exact Or.inr ⟨by rfl, rfl⟩; exact hH) | (refine wpAnyH_take (i := 6) (v := ?_) rfl ?_ ?_ ?_ (fun _ _ _ h => h) ?_ ?_ ?_; rotate_left; kernel_rfl; kernel_rfl; kernel_rfl; (focus (refine Or.inl ⟨by rfl, ?_⟩; intro w' hSw; (try dsimp only at hSw); go_simp)); exact hH) | (refine wpAnyH_take (i := 6) (v := ?_) rfl ?_ ?_ ?_ (fun _ _ _ h => h) ?_ ?_ ?_; rotate_left; kernel_rfl; kernel_rfl; kernel_rfl; (focus (refine Or.inl ⟨by rfl, ?_⟩; intro w' hSw; (try dsimp only at hSw); go_simp; with_reducible rfl)); exact hH)
          try simp only [Act.put, List.getElem_toArray, List.getElem_cons_succ, List.getElem_cons_zero, List.setIfInBounds_toArray, List.set_cons_zero, List.set_cons_succ]
          first | (refine wpAnyH_take (i := 7) (v := undef) rfl ?_ ?_ ?_ (fun _ _ _ h => h) ?_ ?_ ?_; kernel_rfl; kernel_rfl; kernel_rfl; exact Or.inr ⟨by rfl, rfl⟩; exact hH) | (refine wpAnyH_take (i := 7) (v := ?_) rfl ?_ ?_ ?_ (fun _ _ _ h => h) ?_ ?_ ?_; rotate_left; kernel_rfl; kernel_rfl; kernel_rfl; (focus (refine Or.inl ⟨by rfl, ?_⟩; intro w' hSw; (try dsimp only at hSw); go_simp)); exact hH) | (refine wpAnyH_take (i := 7) (v := ?_) rfl ?_ ?_ ?_ (fun _ _ _ h => h) ?_ ?_ ?_; rotate_left; kernel_rfl; kernel_rfl; kernel_rfl; (focus (refine Or.inl ⟨by rfl, ?_⟩; intro w' hSw; (try dsimp only at hSw); go_simp; with_reducible rfl)); exact hH)
          try simp only [Act.put, List.getElem_toArray, List.getElem_cons_succ, List.getElem_cons_zero, List.setIfInBounds_toArray, List.set_cons_zero, List.set_cons_succ]
          first | (refine wpAnyH_take (i := 8) (v := undef) rfl ?_ ?_ ?_ (fun _ _ _ h => h) ?_ ?_ ?_; kernel_rfl; kernel_rfl; kernel_rfl; exact Or.inr ⟨by rfl, rfl⟩; exact hH) | (refine wpAnyH_take (i := 8) (v := ?_) rfl ?_ ?_ ?_ (fun _ _ _ h => h) ?_ ?_ ?_; rotate_left; kernel_rfl; kernel_rfl; kernel_rfl; (focus (refine Or.inl ⟨by rfl, ?_⟩; intro w' hSw; (try dsimp only at hSw); go_simp)); exact hH) | (refine wpAnyH_take (i := 8) (v := ?_) rfl ?_ ?_ ?_ (fun _ _ _ h => h) ?_ ?_ ?_; rotate_left; kernel_rfl; kernel_rfl; kernel_rfl; (focus (refine Or.inl ⟨by rfl, ?_⟩; intro w' hSw; (try dsimp only at hSw); go_simp; with_reducible rfl)); exact hH)
          try simp only [Act.put, List.getElem_toArray, List.getElem_cons_succ, List.getElem_cons_zero, List.setIfInBounds_toArray, List.set_cons_zero, List.set_cons_succ]
          first | (refine wpAnyH_take (i := 9) (v := undef) rfl ?_ ?_ ?_ (fun _ _ _ h => h) ?_ ?_ ?_; kernel_rfl; kernel_rfl; kernel_rfl; exact Or.inr ⟨by rfl, rfl⟩; exact hH) | (refine wpAnyH_take (i := 9) (v := ?_) rfl ?_ ?_ ?_ (fun _ _ _ h => h) ?_ ?_ ?_; rotate_left; kernel_rfl; kernel_rfl; kernel_rfl; (focus (refine Or.inl ⟨by rfl, ?_⟩; intro w' hSw; (try dsimp only at hSw); go_simp)); exact hH) | (refine wpAnyH_take (i := 9) (v := ?_) rfl ?_ ?_ ?_ (fun _ _ _ h => h) ?_ ?_ ?_; rotate_left; kernel_rfl; kernel_rfl; kernel_rfl; (focus (refine Or.inl ⟨by rfl, ?_⟩; intro w' hSw; (try dsimp only at hSw); go_simp; with_reducible rfl)); exact hH)
          try simp only [Act.put, List.getElem_toArray, List.getElem_cons_succ, List.getElem_cons_zero, List.setIfInBounds_toArray, List.set_cons_zero, List.set_cons_succ]
          first | (refine wpAnyH_take (i := 10) (v := undef) rfl ?_ ?_ ?_ (fun _ _ _ h => h) ?_ ?_ ?_; kernel_rfl; kernel_rfl; kernel_rfl; exact Or.inr ⟨by rfl, rfl⟩; exact hH) | (refine wpAnyH_take (i := 10) (v := ?_) rfl ?_ ?_ ?_ (fun _ _ _ h => h) ?_ ?_ ?_; rotate_left; kernel_rfl; kernel_rfl; kernel_rfl; (focus (refine Or.inl ⟨by rfl, ?_⟩; intro w' hSw; (try dsimp only at hSw); go_simp)); exact hH) | (refine wpAnyH_take (i := 10) (v := ?_) rfl ?_ ?_ ?_ (fun _ _ _ h => h) ?_ ?_ ?_; rotate_left; kernel_rfl; kernel_rfl; kernel_rfl; (focus (refine Or.inl ⟨by rfl, ?_⟩; intro w' hSw; (try dsimp only at hSw); go_simp; with_reducible rfl)); exact hH)
          try simp only [Act.put, List.getElem_toArray, List.getElem_cons_succ, List.getElem_cons_zero, List.setIfInBounds_toArray, List.set_cons_zero, List.set_cons_succ]
          first | (refine wpAnyH_take (i := 11) (v := undef) rfl ?_ ?_ ?_ (fun _ _ _ h => h) ?_ ?_ ?_; kernel_rfl; kernel_rfl; kernel_rfl; exact Or.inr ⟨by rfl, rfl⟩; exact hH) | (refine wpAnyH_take (i := 11) (v := ?_) rfl ?_ ?_ ?_ (fun _ _ _ h => h) ?_ ?_ ?_; rotate_left; kernel_rfl; kernel_rfl; kernel_rfl; (focus (refine Or.inl ⟨by rfl, ?_⟩; intro w' hSw; (try dsimp only at hSw); go_simp)); exact hH) | (refine wpAnyH_take (i := 11) (v := ?_) rfl ?_ ?_ ?_ (fun _ _ _ h => h) ?_ ?_ ?_; rotate_left; kernel_rfl; kernel_rfl; kernel_rfl; (focus (refine Or.inl ⟨by rfl, ?_⟩; intro w' hSw; (try dsimp only at hSw); go_simp; with_reducible rfl)); exact hH)
          try simp only [Act.put, List.getElem_toArray, List.getElem_cons_succ, List.getElem_cons_zero, List.setIfInBounds_toArray, List.set_cons_zero, List.set_cons_succ]
          first | (refine wpAnyH_take (i := 12) (v := undef) rfl ?_ ?_ ?_ (fun _ _ _ h => h) ?_ ?_ ?_; kernel_rfl; kernel_rfl; kernel_rfl; exact Or.inr ⟨by rfl, rfl⟩; exact hH) | (refine wpAnyH_take (i := 12) (v := ?_) rfl ?_ ?_ ?_ (fun _ _ _ h => h) ?_ ?_ ?_; rotate_left; kernel_rfl; kernel_rfl; kernel_rfl; (focus (refine Or.inl ⟨by rfl, ?_⟩; intro w' hSw; (try dsimp only at hSw); go_simp)); exact hH) | (refine wpAnyH_take (i := 12) (v := ?_) rfl ?_ ?_ ?_ (fun _ _ _ h => h) ?_ ?_ ?_; rotate_left; kernel_rfl; kernel_rfl; kernel_rfl; (focus (refine Or.inl ⟨by rfl, ?_⟩; intro w' hSw; (try dsimp only at hSw); go_simp; with_reducible rfl)); exact hH)
          try simp only [Act.put, List.getElem_toArray, List.getElem_cons_succ, List.getElem_cons_zero, List.setIfInBounds_toArray, List.set_cons_zero, List.set_cons_succ]
          refine wpAnyH_ready (rs := [13]) (by kernel_rfl) (by simp) ?_
          refine (AllReadyH.cons rfl (fun K hK => ?_) AllReadyH.nil)
          go_simp
          with_reducible refine (rh_of k v _).mono ?_
          rintro e w3 ⟨rfl, hb3⟩
          have fr3 : Fr (fun j => j = w.heap.size + 1 ∨ j = w.heap.size + 2) wa w3 := hH.2.trans (Fr.of_new hb3)
          have HB1 : Hid (Below wa.heap.size wa w3) := (below_of_drew (Below.refl wa.heap.size wa)).trans hb3
          clear hb3
          refine hK.out _ _ (KQ.out _ fr3) (fun hH3 => ?_)
          clear hK K hH
          have hH := hH3
          clear hH3
          try simp only [Act.put, List.getElem_toArray, List.getElem_cons_succ, List.getElem_cons_zero, List.setIfInBounds_toArray, List.set_cons_zero, List.set_cons_succ]
          refine wpAnyH_ready (rs := [14]) (by kernel_rfl) (by simp) ?_
          refine (AllReadyH.cons rfl (fun K hK => ?_) AllReadyH.nil)
          go_simp
          with_reducible refine (rh_take w.heap.size T (some (more minH x sl)) (ofH k v) _ (HSA2.out.next HB1.out) (HTX.out.below HB1.out)).mono ?_
          rintro e w4 ⟨rfl, hsa4, hfa4⟩
          have fr4 : Fr (fun j => j = w.heap.size + 1 ∨ j = w.heap.size + 2) wa w4 := hH.2.trans hfa4
          have HS2 := Lib.hid hsa4
          clear hsa4 hfa4
          have FR2 : Hid (Fr (fun j => j = w.heap.size + 1 ∨ j = w.heap.size + 2) wr w4) := HXX.out.trans fr4
          have nr4 : w4.cell? ⟨b, 7, none⟩ = some (.pointer (ptrO r)) := by rw [← ptrV_eq]; exact (HU.out.1.fr FR2.out (by have := HBX.out; show ¬ (_ ∨ _); omega)).get 7 rfl
          refine hK.out _ _ (KQ.out _ fr4) (fun hH4 => ?_)
          clear hK K hH
          have hH := hH4
          clear hH4
          try simp only [Act.put, List.getElem_toArray, List.getElem_cons_succ, List.getElem_cons_zero, List.setIfInBounds_toArray, List.set_cons_zero, List.set_cons_succ]
          refine wpAnyH_done (by kernel_rfl) ?_ _
          refine NoPanic.normal ?_
          clear hH KQ
          go_wp2
          go_roundg r.size
          case rel => exact ⟨r, _, some (more minH (some (more minH x sl)) (ofH k v)), rfl, rfl, rfl, HFR.out.trans FR2.out, RepH.fr FR2.out HU.out.2.2 (fun x hx => by have := HF.out.2.2.2.2.2.1 x hx; show ¬ (_ ∨ _); omega), HF.out.2.2.2.2.2.1, ⟨_, HF.out.2.2.1⟩, (Rises.mid HF.out.2.2.2.1).2.2.2, HS2.out, by
            rw [← HF.out.1, show RB.items (.node b c (.node bl cl ll kl vl sl rl) k v s r) = RB.items (.node bl cl ll kl vl sl rl) ++ (k, v) :: RB.items r from rfl, upTo_right HF.out.2.2.2.1 (show ¬ n < k.1 by have := HKN.out; omega), sumFrom_append, sumxH HF.out.2.1]
            rfl⟩
          case measure => simp only [RB.size] at hsz ⊢; omega


end Go.Proofs.Ytjlnbpomncglcaa
