/-
  The document's runs: the copies' rows anywhere, one copy more.
-/
import Derived.Test.YtjhffbhjiflfeaaGreatCqA
import Derived.Test.YtjhffbhjiflfeaaGreatAppendSrc
import Derived.Test.YtjhffbhjiflfeaaGreatSagP
import Derived.Test.YtjhffbhjiflfeaaGreatRunA
import Derived.BigRegion
namespace Go.Proofs.YtjhffbhjiflfeaaGreat
set_option linter.unusedVariables false
set_option linter.unusedSimpArgs false
set_option maxRecDepth 100000
open Go.RowKit Go.Shelf

theorem ownU_ne {w : World} {B q n size : Nat} {t : TypeId} {cs : Array Value} {v : Value} {xs : List Value} (hq : Blk w q t cs) (ht : t ≠ 28) (h : w.ownsRow B 28 size v n xs) : v.ownBlock ≠ some q := by
  rcases h.2 with ⟨rfl, _⟩ | ⟨g, cap, cur, rfl, _, hg, _⟩
  · intro e; cases e
  · intro e
    cases e
    exact Blk.ne_of_type hq (show Blk w _ 28 cur from hg) ht rfl
theorem own_fresh {v : Value} {s g m : Nat} (k : v.ownBlock = some s) (hg : v.ownBlock = some g) (h : m ≤ s) : m ≤ g := by
  rw [k] at hg
  injection hg with hg
  omega
theorem own_base {w : World} {B B' : Nat} {e : TypeId} {size n : Nat} {v : Value} {xs : List Value} (h : w.ownsRow B e size v n xs) (hb : B' ≤ B) : w.ownsRow B' e size v n xs := by
  refine ⟨h.1, ?_⟩
  rcases h.2 with h2 | ⟨g, cap, cur, h1, h2, h3⟩
  · exact Or.inl h2
  · exact Or.inr ⟨g, cap, cur, h1, by omega, h3⟩
/-- The rows on their way: as many ticks, as many amounts. -/
def RowsC (w : World) (B q : Nat) (F L R : Int) (vx vy : Value) (n m : Nat) (X Y : Nat → Int) : Prop :=
  Blk w q 111 #[.int .u64 F, .int .u64 L, .int .u64 R, vx, vy] ∧ w.ownsRow B 28 1 vx n (rowOf X n) ∧ w.ownsRow B 28 1 vy m (rowOf Y m) ∧ (∀ g, vx.ownBlock = some g → vy.ownBlock ≠ some g)
section
variable {w w' w0 : World} {B q : Nat} {F L R : Int} {vx vy v : Value} {n m : Nat} {X Y : Nat → Int}
theorem RowsC.next (h : RowsC w B q F L R vx vy n m X Y) (hb : Below w.heap.size w w') : RowsC w' B q F L R vx vy n m X Y := ⟨h.1.next hb, own_next h.2.1 hb, own_next h.2.2.1 hb, h.2.2.2⟩
theorem RowsC.nx (h : RowsC w B q F L R vx vy n m X Y) : vx.ownBlock ≠ some q := ownU_ne h.1 (by decide) h.2.1
theorem RowsC.ny (h : RowsC w B q F L R vx vy n m X Y) : vy.ownBlock ≠ some q := ownU_ne h.1 (by decide) h.2.2.1
theorem RowsC.cq (h : RowsC w B q F L R vx vy n n X Y) : IsCq w q F L R n X Y := ⟨vx, vy, h.1, own_base h.2.1 (Nat.zero_le _), own_base h.2.2.1 (Nat.zero_le _)⟩
theorem RowsC.growX (h : RowsC w B q F L R vx vy n m X Y) (hg : w.grownBy w' vx.ownBlock) (ho : w'.ownsRow B 28 1 v (n + 1) (rowOf X n ++ [.int .u64 (X n)])) (hat : v.ownBlock = vx.ownBlock ∨ v.ownBlock = some w.heap.size) :
    RowsC (w'.setCell ⟨q, 3, none⟩ v) B q F L R v vy (n + 1) m X Y := by
  have nx := h.nx
  have ny := h.ny
  obtain ⟨hq, hx, hy, hd⟩ := h
  have hql := Blk.lt hq
  have ne : vy.ownBlock = none ∨ vy.ownBlock ≠ vx.ownBlock := by
    cases e : vy.ownBlock with
    | none => exact .inl rfl
    | some g => exact .inr fun k => hd g k.symm e
  have nv : v.ownBlock ≠ some q := by
    rcases hat with k | k
    · rw [k]; exact nx
    · rw [k]; intro e; injection e; omega
  refine ⟨(hq.grown hg fun e => nx e.symm).put 3 v, by rw [rowOf_succ]; exact ownsRow_setCell_other ho nv _, ownsRow_setCell_other (hy.kept hg ne) ny _, fun g hgv e => ?_⟩
  rcases hat with k | k
  · exact hd g (by rw [← k]; exact hgv) e
  · rw [k] at hgv
    have := (hy.lt g e).2
    injection hgv; omega
theorem RowsC.growY (h : RowsC w B q F L R vx vy n m X Y) (hg : w.grownBy w' vy.ownBlock) (ho : w'.ownsRow B 28 1 v (m + 1) (rowOf Y m ++ [.int .u64 (Y m)])) (hat : v.ownBlock = vy.ownBlock ∨ v.ownBlock = some w.heap.size) :
    RowsC (w'.setCell ⟨q, 4, none⟩ v) B q F L R vx v n (m + 1) X Y := by
  have nx := h.nx
  have ny := h.ny
  obtain ⟨hq, hx, hy, hd⟩ := h
  have hql := Blk.lt hq
  have ne : vx.ownBlock = none ∨ vx.ownBlock ≠ vy.ownBlock := by
    cases e : vx.ownBlock with
    | none => exact .inl rfl
    | some g => exact .inr fun k => hd g e k.symm
  have nv : v.ownBlock ≠ some q := by
    rcases hat with k | k
    · rw [k]; exact ny
    · rw [k]; intro e; injection e; omega
  refine ⟨(hq.grown hg fun e => ny e.symm).put 4 v, ownsRow_setCell_other (hx.kept hg ne) nx _, by rw [rowOf_succ]; exact ownsRow_setCell_other ho nv _, fun g hgv e => ?_⟩
  rcases hat with k | k
  · exact hd g hgv (by rw [← k]; exact e)
  · rw [k] at e
    have := (hx.lt g hgv).2
    injection e; omega
end

set_option maxHeartbeats 4000000 in
/-- One copy more. -/
theorem rstart_c (B q : Nat) (F L R : Int) (vx vy : Value) (n : Nat) (X Y : Nat → Int) (x y l : Int) (w : World) (h : RowsC w B q F L R vx vy n n X Y) (hB : B ≤ w.heap.size) (hn : n ≤ 1000000) (wx : Word x) (wy : Word y) (hl : lastOf X n = l) (hX : max (min x 9223372036854775808) l = X n) (hY : min y 4611686018427387904 = Y n) :
    Calls Tryz.prog 62 #[.pointer (some ⟨q, 0, none⟩), .int .u64 x, .int .u64 y] w fun e w' => e = .returned (.tuple #[]) ∧ ∃ vx' vy', RowsC w' B q F L R vx' vy' (n + 1) (n + 1) X Y ∧ (∀ g, vx'.ownBlock = some g → vx.ownBlock = some g ∨ w.heap.size ≤ g) ∧ (∀ g, vy'.ownBlock = some g → vy.ownBlock = some g ∨ w.heap.size ≤ g) ∧ Fr (fun k => k = q ∨ vx.ownBlock = some k ∨ vy.ownBlock = some k) w w' := by
  have LA := Lib.hid (fun w h => rlast_any q F L R n X Y l w h hn hl)
  have HI := Lib.hid h.cq
  have HR := Lib.hid h
  have HNX := Lib.hid h.nx
  have HNY := Lib.hid h.ny
  have HBB := Lib.hid hB
  obtain ⟨i0, hi, hz0, hz1, hz2⟩ := info_parts (show (Tryz.prog.info? 28).map (fun i => (i.zero, i.size, i.bytes)) = some (some (.int .u64 0), 1, 8) by kernel_rfl)
  have HIF := Lib.hid (And.intro hi (And.intro hz0 (And.intro hz1 hz2)))
  obtain ⟨xn, exn⟩ : ∃ z, X n = z := ⟨_, rfl⟩
  obtain ⟨yn, eyn⟩ : ∃ z, Y n = z := ⟨_, rfl⟩
  rw [exn] at hX
  rw [eyn] at hY
  have EX := Lib.hid exn
  have EY := Lib.hid eyn
  have hm1 : n + 1 ≤ maxLen := by unfold maxLen; omega
  have KP : Hid (∀ w', Fr ((fun k => vx.ownBlock = some k)) w w' → (w'.cell? ⟨q, 3, none⟩ = some (vx)) ∧ Fr ((fun k => vx.ownBlock = some k)) w w') := fun w' hb => ⟨((HR.out.1.fr hb HNX.out).get 3 rfl), hb⟩
  clear hl exn eyn hi hz0 hz1 hz2 h hB
  go_enter Tryz.func62, Tryz.ntmps62
  go_upto_region 0 with (fail)
  go_cut [17] (fun sv wc => ∃ v', RowsC wc B q F L R v' vy (n + 1) n X Y ∧ (∀ g, v'.ownBlock = some g → vx.ownBlock = some g ∨ w.heap.size ≤ g) ∧ Fr (fun k => k = q ∨ vx.ownBlock = some k ∨ vy.ownBlock = some k) w wc)
  case first =>
    refine wp_region_noPanic ?_
    refine wp_region_Z [14] (fun w' => (w'.cell? ⟨q, 3, none⟩ = some (vx)) ∧ Fr ((fun k => vx.ownBlock = some k)) w w') (by kernel_rfl) (KP.out _ (Fr.drew ((Fr.refl (fun k => vx.ownBlock = some k) w)))) (fun hH => ?_)
    have hbR := Fr.drew ((Fr.refl (fun k => vx.ownBlock = some k) w))
    first | (refine wpAnyZ_take (i := 0) (v := undef) rfl ?_ ?_ ?_ ?_ (fun _ _ _ h => h) ?_ ?_ ?_; kernel_rfl; kernel_rfl; kernel_rfl; kernel_rfl; exact Or.inr ⟨by rfl, rfl⟩; exact hH) | (refine wpAnyZ_take (i := 0) (v := ?_) rfl ?_ ?_ ?_ ?_ (fun _ _ _ h => h) ?_ ?_ ?_; rotate_left; kernel_rfl; kernel_rfl; kernel_rfl; kernel_rfl; (focus (refine Or.inl ⟨by rfl, ?_⟩; intro w' hSw; (try dsimp only at hSw); go_simp)); exact hH) | (refine wpAnyZ_take (i := 0) (v := ?_) rfl ?_ ?_ ?_ ?_ (fun _ _ _ h => h) ?_ ?_ ?_; rotate_left; kernel_rfl; kernel_rfl; kernel_rfl; kernel_rfl; (focus (refine Or.inl ⟨by rfl, ?_⟩; intro w' hSw; (try dsimp only at hSw); go_simp; with_reducible rfl)); exact hH)
    try simp only [Act.put, List.getElem_toArray, List.getElem_cons_succ, List.getElem_cons_zero, List.setIfInBounds_toArray, List.set_cons_zero, List.set_cons_succ]
    first | (refine wpAnyZ_take (i := 1) (v := undef) rfl ?_ ?_ ?_ ?_ (fun _ _ _ h => h) ?_ ?_ ?_; kernel_rfl; kernel_rfl; kernel_rfl; kernel_rfl; exact Or.inr ⟨by rfl, rfl⟩; exact hH) | (refine wpAnyZ_take (i := 1) (v := ?_) rfl ?_ ?_ ?_ ?_ (fun _ _ _ h => h) ?_ ?_ ?_; rotate_left; kernel_rfl; kernel_rfl; kernel_rfl; kernel_rfl; (focus (refine Or.inl ⟨by rfl, ?_⟩; intro w' hSw; (try dsimp only at hSw); go_simp)); exact hH) | (refine wpAnyZ_take (i := 1) (v := ?_) rfl ?_ ?_ ?_ ?_ (fun _ _ _ h => h) ?_ ?_ ?_; rotate_left; kernel_rfl; kernel_rfl; kernel_rfl; kernel_rfl; (focus (refine Or.inl ⟨by rfl, ?_⟩; intro w' hSw; (try dsimp only at hSw); go_simp; with_reducible rfl)); exact hH)
    try simp only [Act.put, List.getElem_toArray, List.getElem_cons_succ, List.getElem_cons_zero, List.setIfInBounds_toArray, List.set_cons_zero, List.set_cons_succ]
    first | (refine wpAnyZ_take (i := 2) (v := undef) rfl ?_ ?_ ?_ ?_ (fun _ _ _ h => h) ?_ ?_ ?_; kernel_rfl; kernel_rfl; kernel_rfl; kernel_rfl; exact Or.inr ⟨by rfl, rfl⟩; exact hH) | (refine wpAnyZ_take (i := 2) (v := ?_) rfl ?_ ?_ ?_ ?_ (fun _ _ _ h => h) ?_ ?_ ?_; rotate_left; kernel_rfl; kernel_rfl; kernel_rfl; kernel_rfl; (focus (refine Or.inl ⟨by rfl, ?_⟩; intro w' hSw; (try dsimp only at hSw); go_simp)); exact hH) | (refine wpAnyZ_take (i := 2) (v := ?_) rfl ?_ ?_ ?_ ?_ (fun _ _ _ h => h) ?_ ?_ ?_; rotate_left; kernel_rfl; kernel_rfl; kernel_rfl; kernel_rfl; (focus (refine Or.inl ⟨by rfl, ?_⟩; intro w' hSw; (try dsimp only at hSw); go_simp; with_reducible rfl)); exact hH)
    try simp only [Act.put, List.getElem_toArray, List.getElem_cons_succ, List.getElem_cons_zero, List.setIfInBounds_toArray, List.set_cons_zero, List.set_cons_succ]
    first | (refine wpAnyZ_take (i := 3) (v := undef) rfl ?_ ?_ ?_ ?_ (fun _ _ _ h => h) ?_ ?_ ?_; kernel_rfl; kernel_rfl; kernel_rfl; kernel_rfl; exact Or.inr ⟨by rfl, rfl⟩; exact hH) | (refine wpAnyZ_take (i := 3) (v := ?_) rfl ?_ ?_ ?_ ?_ (fun _ _ _ h => h) ?_ ?_ ?_; rotate_left; kernel_rfl; kernel_rfl; kernel_rfl; kernel_rfl; (focus (refine Or.inl ⟨by rfl, ?_⟩; intro w' hSw; (try dsimp only at hSw); go_simp)); exact hH) | (refine wpAnyZ_take (i := 3) (v := ?_) rfl ?_ ?_ ?_ ?_ (fun _ _ _ h => h) ?_ ?_ ?_; rotate_left; kernel_rfl; kernel_rfl; kernel_rfl; kernel_rfl; (focus (refine Or.inl ⟨by rfl, ?_⟩; intro w' hSw; (try dsimp only at hSw); go_simp; with_reducible rfl)); exact hH)
    try simp only [Act.put, List.getElem_toArray, List.getElem_cons_succ, List.getElem_cons_zero, List.setIfInBounds_toArray, List.set_cons_zero, List.set_cons_succ]
    first | (refine wpAnyZ_take (i := 4) (v := undef) rfl ?_ ?_ ?_ ?_ (fun _ _ _ h => h) ?_ ?_ ?_; kernel_rfl; kernel_rfl; kernel_rfl; kernel_rfl; exact Or.inr ⟨by rfl, rfl⟩; exact hH) | (refine wpAnyZ_take (i := 4) (v := ?_) rfl ?_ ?_ ?_ ?_ (fun _ _ _ h => h) ?_ ?_ ?_; rotate_left; kernel_rfl; kernel_rfl; kernel_rfl; kernel_rfl; (focus (refine Or.inl ⟨by rfl, ?_⟩; intro w' hSw; (try dsimp only at hSw); go_simp)); exact hH) | (refine wpAnyZ_take (i := 4) (v := ?_) rfl ?_ ?_ ?_ ?_ (fun _ _ _ h => h) ?_ ?_ ?_; rotate_left; kernel_rfl; kernel_rfl; kernel_rfl; kernel_rfl; (focus (refine Or.inl ⟨by rfl, ?_⟩; intro w' hSw; (try dsimp only at hSw); go_simp; with_reducible rfl)); exact hH)
    try simp only [Act.put, List.getElem_toArray, List.getElem_cons_succ, List.getElem_cons_zero, List.setIfInBounds_toArray, List.set_cons_zero, List.set_cons_succ]
    first | (refine wpAnyZ_take (i := 5) (v := undef) rfl ?_ ?_ ?_ ?_ (fun _ _ _ h => h) ?_ ?_ ?_; kernel_rfl; kernel_rfl; kernel_rfl; kernel_rfl; exact Or.inr ⟨by rfl, rfl⟩; exact hH) | (refine wpAnyZ_take (i := 5) (v := ?_) rfl ?_ ?_ ?_ ?_ (fun _ _ _ h => h) ?_ ?_ ?_; rotate_left; kernel_rfl; kernel_rfl; kernel_rfl; kernel_rfl; (focus (refine Or.inl ⟨by rfl, ?_⟩; intro w' hSw; (try dsimp only at hSw); go_simp)); exact hH) | (refine wpAnyZ_take (i := 5) (v := ?_) rfl ?_ ?_ ?_ ?_ (fun _ _ _ h => h) ?_ ?_ ?_; rotate_left; kernel_rfl; kernel_rfl; kernel_rfl; kernel_rfl; (focus (refine Or.inl ⟨by rfl, ?_⟩; intro w' hSw; (try dsimp only at hSw); go_simp; with_reducible rfl)); exact hH)
    try simp only [Act.put, List.getElem_toArray, List.getElem_cons_succ, List.getElem_cons_zero, List.setIfInBounds_toArray, List.set_cons_zero, List.set_cons_succ]
    first | (refine wpAnyZ_take (i := 6) (v := undef) rfl ?_ ?_ ?_ ?_ (fun _ _ _ h => h) ?_ ?_ ?_; kernel_rfl; kernel_rfl; kernel_rfl; kernel_rfl; exact Or.inr ⟨by rfl, rfl⟩; exact hH) | (refine wpAnyZ_take (i := 6) (v := ?_) rfl ?_ ?_ ?_ ?_ (fun _ _ _ h => h) ?_ ?_ ?_; rotate_left; kernel_rfl; kernel_rfl; kernel_rfl; kernel_rfl; (focus (refine Or.inl ⟨by rfl, ?_⟩; intro w' hSw; (try dsimp only at hSw); go_simp)); exact hH) | (refine wpAnyZ_take (i := 6) (v := ?_) rfl ?_ ?_ ?_ ?_ (fun _ _ _ h => h) ?_ ?_ ?_; rotate_left; kernel_rfl; kernel_rfl; kernel_rfl; kernel_rfl; (focus (refine Or.inl ⟨by rfl, ?_⟩; intro w' hSw; (try dsimp only at hSw); go_simp; with_reducible rfl)); exact hH)
    try simp only [Act.put, List.getElem_toArray, List.getElem_cons_succ, List.getElem_cons_zero, List.setIfInBounds_toArray, List.set_cons_zero, List.set_cons_succ]
    first | (refine wpAnyZ_take (i := 7) (v := undef) rfl ?_ ?_ ?_ ?_ (fun _ _ _ h => h) ?_ ?_ ?_; kernel_rfl; kernel_rfl; kernel_rfl; kernel_rfl; exact Or.inr ⟨by rfl, rfl⟩; exact hH) | (refine wpAnyZ_take (i := 7) (v := ?_) rfl ?_ ?_ ?_ ?_ (fun _ _ _ h => h) ?_ ?_ ?_; rotate_left; kernel_rfl; kernel_rfl; kernel_rfl; kernel_rfl; (focus (refine Or.inl ⟨by rfl, ?_⟩; intro w' hSw; (try dsimp only at hSw); go_simp)); exact hH) | (refine wpAnyZ_take (i := 7) (v := ?_) rfl ?_ ?_ ?_ ?_ (fun _ _ _ h => h) ?_ ?_ ?_; rotate_left; kernel_rfl; kernel_rfl; kernel_rfl; kernel_rfl; (focus (refine Or.inl ⟨by rfl, ?_⟩; intro w' hSw; (try dsimp only at hSw); go_simp; with_reducible rfl)); exact hH)
    try simp only [Act.put, List.getElem_toArray, List.getElem_cons_succ, List.getElem_cons_zero, List.setIfInBounds_toArray, List.set_cons_zero, List.set_cons_succ]
    refine wpAnyZ_ready (rs := [8]) (by kernel_rfl) (by simp) ?_
    refine (AllReadyZ.cons rfl (fun K hK => ?_) AllReadyZ.nil)
    go_simp
    with_reducible refine (LA.out _ (HI.out.next (below_of_drew (Below.refl _ _)))).mono ?_
    rintro e w1 ⟨rfl, hb1⟩
    have fr1 : Fr (fun k => vx.ownBlock = some k) w w1 := hH.2.trans (Fr.of_new hb1)
    have HBL := Lib.hid ((below_of_drew (Below.refl w.heap.size w)).trans hb1)
    clear hb1
    try go_wp2_with fail
    have hH1 := KP.out _ fr1
    refine hK.out _ _ (fun _ => hH1) ?_
    clear hK K hH
    have hH := hH1
    clear hH1
    try simp only [Act.put, List.getElem_toArray, List.getElem_cons_succ, List.getElem_cons_zero, List.setIfInBounds_toArray, List.set_cons_zero, List.set_cons_succ]
    first | (refine wpAnyZ_take (i := 9) (v := undef) rfl ?_ ?_ ?_ ?_ (fun _ _ _ h => h) ?_ ?_ ?_; kernel_rfl; kernel_rfl; kernel_rfl; kernel_rfl; exact Or.inr ⟨by rfl, rfl⟩; exact hH) | (refine wpAnyZ_take (i := 9) (v := ?_) rfl ?_ ?_ ?_ ?_ (fun _ _ _ h => h) ?_ ?_ ?_; rotate_left; kernel_rfl; kernel_rfl; kernel_rfl; kernel_rfl; (focus (refine Or.inl ⟨by rfl, ?_⟩; intro w' hSw; (try dsimp only at hSw); go_simp)); exact hH) | (refine wpAnyZ_take (i := 9) (v := ?_) rfl ?_ ?_ ?_ ?_ (fun _ _ _ h => h) ?_ ?_ ?_; rotate_left; kernel_rfl; kernel_rfl; kernel_rfl; kernel_rfl; (focus (refine Or.inl ⟨by rfl, ?_⟩; intro w' hSw; (try dsimp only at hSw); go_simp; with_reducible rfl)); exact hH)
    try simp only [Act.put, List.getElem_toArray, List.getElem_cons_succ, List.getElem_cons_zero, List.setIfInBounds_toArray, List.set_cons_zero, List.set_cons_succ]
    refine wpAnyZ_ready (rs := [10]) (by kernel_rfl) (by simp) ?_
    refine (AllReadyZ.cons rfl (fun K hK => ?_) AllReadyZ.nil)
    go_simp
    have hH2 := KP.out _ (Fr.alloc fr1 (.cells #[.int .u64 xn] 28))
    refine hK.out _ _ (fun _ => hH2) ?_
    clear hK K hH
    have hH := hH2
    clear hH2
    try simp only [Act.put, List.getElem_toArray, List.getElem_cons_succ, List.getElem_cons_zero, List.setIfInBounds_toArray, List.set_cons_zero, List.set_cons_succ]
    refine wpAnyZ_ready (rs := [11]) (by kernel_rfl) (by simp) ?_
    refine (AllReadyZ.cons rfl (fun K hK => ?_) AllReadyZ.nil)
    obtain ⟨hi, hz0, hz1, hz2⟩ := HIF.out
    have R1 : RowsC (w1.alloc (.cells #[.int .u64 xn] 28)) B q F L R vx vy n n X Y := (HR.out.next HBL.out).next ((Below.refl _ _).alloc (Nat.le_refl _) _)
    refine want_yes (by rfl) ?_
    refine wp_append_one _ _ 104 rfl B 28 i0 (.int .u64 0) 8 Tryz.underlying104 hi hz0 hz1 hz2 rfl vx n (rowOf X n) (by rfl) R1.2.1 ⟨w1.heap.size, 0, none⟩ 1 (.int .u64 xn) (by rfl) ((Blk.new w1 28 #[.int .u64 xn]).get 0 rfl) rfl hm1 (by omega) (by have := HBL.out.size; have := HBB.out; simp only [World.size_alloc]; omega) ?_
    intro v2 w3 hown3 hgrow3 hat3
    obtain ⟨gv, cv, rfl, -⟩ := own_form hown3 (by omega)
    rw [← EX.out] at hown3
    have G3 := R1.growX hgrow3 hown3 hat3
    have fr3 : Fr (fun k => vx.ownBlock = some k) w w3 := (Fr.alloc fr1 _).grown hgrow3 (fun j hj _ => hj)
    have Q3 := Blk.grown R1.1 hgrow3 (fun e => HNX.out e.symm)
    have Qc3 : World.cell? w3 ⟨q, 3, none⟩ = some vx := Q3.get 3 rfl
    have Qf3 := Blk.frozen Q3 3
    have A3 : ∀ g, (Value.slice (some ⟨gv, 0, none⟩) (n + 1) cv).ownBlock = some g → vx.ownBlock = some g ∨ w.heap.size ≤ g := fun g hg => hat3.elim (fun k => Or.inl (by rw [← k]; exact hg)) (fun k => Or.inr (own_fresh k hg (by have := HBL.out.size; simp only [World.size_alloc]; omega)))
    have hH3 := KP.out _ fr3
    refine hK.out _ _ (fun _ => hH3) ?_
    clear hK K hH
    have hH := hH3
    clear hH3
    try simp only [Act.put, List.getElem_toArray, List.getElem_cons_succ, List.getElem_cons_zero, List.setIfInBounds_toArray, List.set_cons_zero, List.set_cons_succ]
    refine wpAnyZ_ready (rs := [12]) (by kernel_rfl) (by simp) ?_
    refine (AllReadyZ.cons rfl (fun K hK => ?_) AllReadyZ.nil)
    go_simp
    refine hK.out _ _ (fun _ => hH) ?_
    clear hK K
    try simp only [Act.put, List.getElem_toArray, List.getElem_cons_succ, List.getElem_cons_zero, List.setIfInBounds_toArray, List.set_cons_zero, List.set_cons_succ]
    first | (refine wpAnyZ_take (i := 13) (v := undef) rfl ?_ ?_ ?_ ?_ (fun _ _ _ h => h) ?_ ?_ ?_; kernel_rfl; kernel_rfl; kernel_rfl; kernel_rfl; exact Or.inr ⟨by rfl, rfl⟩; exact hH) | (refine wpAnyZ_take (i := 13) (v := ?_) rfl ?_ ?_ ?_ ?_ (fun _ _ _ h => h) ?_ ?_ ?_; rotate_left; kernel_rfl; kernel_rfl; kernel_rfl; kernel_rfl; (focus (refine Or.inl ⟨by rfl, ?_⟩; intro w' hSw; (try dsimp only at hSw); go_simp)); exact hH) | (refine wpAnyZ_take (i := 13) (v := ?_) rfl ?_ ?_ ?_ ?_ (fun _ _ _ h => h) ?_ ?_ ?_; rotate_left; kernel_rfl; kernel_rfl; kernel_rfl; kernel_rfl; (focus (refine Or.inl ⟨by rfl, ?_⟩; intro w' hSw; (try dsimp only at hSw); go_simp; with_reducible rfl)); exact hH)
    try simp only [Act.put, List.getElem_toArray, List.getElem_cons_succ, List.getElem_cons_zero, List.setIfInBounds_toArray, List.set_cons_zero, List.set_cons_succ]
    refine wpAnyZ_ready (rs := [14]) (by kernel_rfl) (by simp) ?_
    refine (AllReadyZ.cons rfl (fun K hK => ?_) AllReadyZ.nil)
    go_simp
    refine hK.out _ _ (fun h => absurd (by simp) h) ?_
    clear hK K
    try simp only [Act.put, List.getElem_toArray, List.getElem_cons_succ, List.getElem_cons_zero, List.setIfInBounds_toArray, List.set_cons_zero, List.set_cons_succ]
    refine wpAnyZ_done (by kernel_rfl) ?_ _
    refine NoPanic.normal ?_
    go_wp2_with fail
    go_meet
    exact ⟨_, G3, A3, Fr.setCell (S := fun k => k = q ∨ vx.ownBlock = some k ∨ vy.ownBlock = some k) (p := ⟨q, 3, none⟩) (fr3.mono (fun _ _ h => Or.inr (Or.inl h))) (fun _ => Or.inl rfl) _⟩
  case rest =>
    obtain ⟨v', R1, A1, F0⟩ := hcut
    have Qc4 : World.cell? wc ⟨q, 4, none⟩ = some vy := R1.1.get 4 rfl
    have Qf4 := Blk.frozen R1.1 4
    have R2 : RowsC (wc.alloc (.cells #[.int .u64 yn] 28)) B q F L R v' vy (n + 1) n X Y := R1.next ((Below.refl _ _).alloc (Nat.le_refl _) _)
    have hy := R2.2.2.1
    have hqc := Blk.lt R1.1
    have HR2 := Lib.hid R2
    have HF := Lib.hid (And.intro A1 F0)
    have hnw : (wc.alloc (.cells #[.int .u64 yn] 28)).cell? ⟨wc.heap.size, 0, none⟩ = some (.int .u64 yn) := (Blk.new wc 28 #[.int .u64 yn]).get 0 rfl
    have HN := Lib.hid hnw
    have hBc : B ≤ wc.heap.size := Nat.le_trans HBB.out F0.size
    obtain ⟨hi, hz0, hz1, hz2⟩ := HIF.out
    clear R1 A1 F0 R2 hnw
    have hyH := Lib.hid hy
    clear hy
    go_wp2_with (at_builtin; refine wpList_append_own_at _ rfl _ _ 104 rfl B 28 i0 (.int .u64 0) 1 8 Tryz.underlying104 hi hz0 hz1 hz2 rfl (by decide) vy n (rowOf Y n) rfl hyH.out ⟨wc.heap.size, 0, none⟩ 1 1 [.int .u64 yn] rfl rfl ?c1 ?c2 hm1 (by omega) (by simp only [World.size_alloc]; omega) ?_)
    case c1 =>
      intro j u hj
      match j, hj with
      | 0, hj => simp at hj; subst hj; exact HN.out
    case c2 => intro u hu; rw [List.mem_singleton] at hu; subst hu; rfl
    intro v2 w3 hown3 hgrow3 _ hat3
    obtain ⟨gv, cv, rfl, -⟩ := own_form hown3 (by omega)
    rw [← EY.out] at hown3
    have G3 := Lib.hid (HR2.out.growY hgrow3 hown3 (by rw [World.size_alloc]; exact hat3))
    have D3 : Fr (fun k => k = q ∨ vx.ownBlock = some k ∨ vy.ownBlock = some k) w (w3.setCell ⟨q, 4, none⟩ (.slice (some ⟨gv, 0, none⟩) (n + 1) cv)) := ((HF.out.2.alloc _).grown hgrow3 (fun j hj _ => Or.inr (Or.inr hj))).setCell (p := ⟨q, 4, none⟩) (fun _ => Or.inl rfl) _
    have A3 : ∀ g, (Value.slice (some ⟨gv, 0, none⟩) (n + 1) cv).ownBlock = some g → vy.ownBlock = some g ∨ w.heap.size ≤ g := fun g hg => by
      rcases hat3 with k | k
      · left; rw [← k]; exact hg
      · right
        rw [k] at hg
        injection hg with hg
        have := HF.out.2.size
        try simp only [World.size_alloc] at hg
        omega
    have HD := Lib.hid (And.intro A3 D3)
    have Q3 := Blk.grown HR2.out.1 hgrow3 (fun e => HNY.out e.symm)
    have Qc3 : World.cell? w3 ⟨q, 4, none⟩ = some vy := Q3.get 4 rfl
    have Qf3 := Blk.frozen Q3 4
    clear hown3 hgrow3 hat3 Qc4 Qf4 Q3 A3 D3
    go_wp2_with fail
    go_end0
    exact ⟨rfl, v', _, G3.out, HF.out.1, HD.out.1, HD.out.2⟩

end Go.Proofs.YtjhffbhjiflfeaaGreat

/-!
  Sagging runs, plainly: the copies that are kept tell the least of all copies.
-/
namespace Go.Proofs.YtjhffbhjiflfeaaGreat
set_option linter.unusedVariables false
set_option linter.unusedSimpArgs false

/-- From the tick x on, k has no more than a. -/
def Dom (F L R x : Int) (k a : Int × Int) : Prop := ∀ t, x ≤ t → sHas F L R t k ≤ sHas F L R t a
theorem Dom.refl (F L R x : Int) (a : Int × Int) : Dom F L R x a a := fun _ _ => Int.le_refl _
theorem Dom.trans {F L R x : Int} {a b c : Int × Int} (h : Dom F L R x a b) (k : Dom F L R x b c) : Dom F L R x a c := fun t ht => Int.le_trans (h t ht) (k t ht)
theorem Dom.later {F L R x x' : Int} {a b : Int × Int} (h : Dom F L R x a b) (hx : x ≤ x') : Dom F L R x' a b := fun t ht => h t (Int.le_trans hx ht)
/-- What a curve has: its line, less what the first part lacks. -/
theorem raw_line (F L R t : Int) : rawN F L R t = R * t - (R - F) * min t L := by
  unfold rawN
  rw [Int.mul_sub, Int.sub_mul]
  omega
theorem has_line (F L R t : Int) (k : Int × Int) : sHas F L R t k = sLine R t k - (R - F) * min (t - k.1) L := by
  unfold sHas sLine
  rw [raw_line]
  omega
/-- An earlier copy that has no less now has no less ever after. -/
theorem dom_pop {F L R x : Int} {c k : Int × Int} (hs : F ≤ R) (hx : c.1 ≤ k.1) (h : sHas F L R x k ≤ sHas F L R x c) : Dom F L R x k c := by
  intro t ht
  have a1 := has_line F L R t c
  have a2 := has_line F L R t k
  have b1 := has_line F L R x c
  have b2 := has_line F L R x k
  have e1 : sLine R t c = sLine R x c + R * (t - x) := by unfold sLine; rw [show t - c.1 = (x - c.1) + (t - x) by omega, Int.mul_add]; omega
  have e2 : sLine R t k = sLine R x k + R * (t - x) := by unfold sLine; rw [show t - k.1 = (x - k.1) + (t - x) by omega, Int.mul_add]; omega
  have m : (R - F) * (min (t - c.1) L - min (x - c.1) L) ≤ (R - F) * (min (t - k.1) L - min (x - k.1) L) := Int.mul_le_mul_of_nonneg_left (by omega) (by omega)
  rw [Int.mul_sub, Int.mul_sub] at m
  omega
/-- A later copy whose line is no lower has no less. -/
theorem dom_skip {F L R x : Int} {c k : Int × Int} (hs : F ≤ R) (hx : c.1 ≤ k.1) (h : sLine R x c ≤ sLine R x k) : Dom F L R x c k := by
  intro t ht
  have a1 := has_line F L R t c
  have a2 := has_line F L R t k
  have e1 : sLine R t c = sLine R x c + R * (t - x) := by unfold sLine; rw [show t - c.1 = (x - c.1) + (t - x) by omega, Int.mul_add]; omega
  have e2 : sLine R t k = sLine R x k + R * (t - x) := by unfold sLine; rw [show t - k.1 = (x - k.1) + (t - x) by omega, Int.mul_add]; omega
  have m : (R - F) * min (t - k.1) L ≤ (R - F) * min (t - c.1) L := Int.mul_le_mul_of_nonneg_left (by omega) (by omega)
  omega
theorem dom_sPop {F L R x : Int} {k : Int × Int} (hs : F ≤ R) : ∀ {O : List (Int × Int)}, (∀ c ∈ O, c.1 ≤ k.1) → ∀ c ∈ O, c ∈ sPop (sHas F L R x) (sHas F L R x k) O ∨ Dom F L R x k c
  | [], _, c, hc => by cases hc
  | o :: O, ho, c, hc => by
    unfold sPop
    split
    · rename_i h
      rcases List.mem_cons.1 hc with rfl | hc
      · exact Or.inr (dom_pop hs (ho c (List.mem_cons_self ..)) h)
      · exact dom_sPop hs (fun c hc => ho c (List.mem_cons_of_mem _ hc)) c hc
    · exact Or.inl hc
/-- Behind a push each that was there, and the new one, is led by one that is there. -/
theorem dom_sPush {F L R x : Int} {O : List (Int × Int)} {k : Int × Int} (hs : F ≤ R) (ho : ∀ c ∈ O, c.1 ≤ k.1) : ∀ a, (a = k ∨ a ∈ O) → ∃ b ∈ sPush F L R x O k, Dom F L R x b a := by
  have hk : ∃ b ∈ sPush F L R x O k, Dom F L R x b k := by
    unfold sPush
    cases e : sPop (sHas F L R x) (sHas F L R x k) O with
    | nil => exact ⟨k, List.mem_singleton.2 rfl, Dom.refl _ _ _ _ _⟩
    | cons c K' =>
      have hc : c ∈ O := mem_sPop (h := sHas F L R x) (a := sHas F L R x k) (by rw [e]; exact List.mem_cons_self ..)
      show ∃ b ∈ (if sLine R x c ≤ sLine R x k then c :: K' else k :: c :: K'), _
      split
      · rename_i h; exact ⟨c, List.mem_cons_self .., dom_skip hs (ho c hc) h⟩
      · exact ⟨k, List.mem_cons_self .., Dom.refl _ _ _ _ _⟩
  rintro a (rfl | ha)
  · exact hk
  · rcases dom_sPop (F := F) (L := L) (R := R) (x := x) hs ho a ha with h | h
    · refine ⟨a, ?_, Dom.refl _ _ _ _ _⟩
      unfold sPush
      revert h
      cases e : sPop (sHas F L R x) (sHas F L R x k) O with
      | nil => intro h; cases h
      | cons c K' =>
        intro h
        show a ∈ (if sLine R x c ≤ sLine R x k then c :: K' else k :: c :: K')
        split
        · exact h
        · exact List.mem_cons_of_mem _ h
    · obtain ⟨b, hb, hd⟩ := hk
      exact ⟨b, hb, hd.trans h⟩
theorem dom_fold {F L R x : Int} (hs : F ≤ R) : ∀ {K O : List (Int × Int)}, (∀ c ∈ O, ∀ k ∈ K, c.1 ≤ k.1) → K.Pairwise (fun a b => a.1 ≤ b.1) → ∀ a, (a ∈ O ∨ a ∈ K) → ∃ b ∈ K.foldl (sPush F L R x) O, Dom F L R x b a
  | [], O, _, _, a, ha => ⟨a, ha.elim id (fun h => by cases h), Dom.refl _ _ _ _ _⟩
  | k :: K, O, ho, hp, a, ha => by
    have hp2 := List.pairwise_cons.1 hp
    have hso : ∀ c ∈ sPush F L R x O k, ∀ k' ∈ K, c.1 ≤ k'.1 := fun c hc k' hk' => by
      rcases mem_sPush hc with rfl | hc
      · exact hp2.1 k' hk'
      · exact ho c hc k' (List.mem_cons_of_mem _ hk')
    have st : ∀ a', (a' = k ∨ a' ∈ O) → ∃ b ∈ K.foldl (sPush F L R x) (sPush F L R x O k), Dom F L R x b a' := fun a' h => by
      obtain ⟨b, hb, hd⟩ := dom_sPush (F := F) (L := L) (R := R) (x := x) hs (fun c hc => ho c hc k (List.mem_cons_self ..)) a' h
      obtain ⟨b', hb', hd'⟩ := dom_fold (F := F) (L := L) (R := R) (x := x) hs hso hp2.2 b (Or.inl hb)
      exact ⟨b', hb', hd'.trans hd⟩
    rcases ha with ha | ha
    · exact st a (Or.inr ha)
    · rcases List.mem_cons.1 ha with rfl | ha
      · exact st _ (Or.inl rfl)
      · exact dom_fold hs hso hp2.2 a (Or.inr ha)
/-- What is kept is in order, the last ahead. -/
theorem sPop_sub (h : Int × Int → Int) (a : Int) : ∀ K : List (Int × Int), (sPop h a K).Sublist K
  | [] => List.Sublist.refl _
  | k :: K => by
    unfold sPop
    split
    · exact (sPop_sub h a K).cons k
    · exact List.Sublist.refl _
theorem sPush_order {F L R x : Int} {O : List (Int × Int)} {k : Int × Int} (ho : ∀ c ∈ O, c.1 ≤ k.1) (hp : O.Pairwise fun a b => b.1 ≤ a.1) : (sPush F L R x O k).Pairwise fun a b => b.1 ≤ a.1 := by
  unfold sPush
  have hq := hp.sublist (sPop_sub (sHas F L R x) (sHas F L R x k) O)
  have hm : ∀ c ∈ sPop (sHas F L R x) (sHas F L R x k) O, c.1 ≤ k.1 := fun c hc => ho c (mem_sPop hc)
  cases e : sPop (sHas F L R x) (sHas F L R x k) O with
  | nil => exact List.pairwise_singleton ..
  | cons c K' =>
    rw [e] at hq hm
    show (if sLine R x c ≤ sLine R x k then c :: K' else k :: c :: K').Pairwise _
    split
    · exact hq
    · exact List.pairwise_cons.2 ⟨hm, hq⟩
theorem fold_order {F L R x : Int} : ∀ {K O : List (Int × Int)}, (∀ c ∈ O, ∀ k ∈ K, c.1 ≤ k.1) → K.Pairwise (fun a b => a.1 ≤ b.1) → O.Pairwise (fun a b => b.1 ≤ a.1) → (K.foldl (sPush F L R x) O).Pairwise fun a b => b.1 ≤ a.1
  | [], O, _, _, hp => hp
  | k :: K, O, ho, hk, hp => by
    have hk2 := List.pairwise_cons.1 hk
    refine fold_order (K := K) (O := sPush F L R x O k) (fun c hc k' hk' => ?_) hk2.2 (sPush_order (fun c hc => ho c hc k (List.mem_cons_self ..)) hp)
    rcases mem_sPush hc with rfl | hc
    · exact hk2.1 k' hk'
    · exact ho c hc k' (List.mem_cons_of_mem _ hk')

/-- The kept ones K lead all copies A, from the last start x on. -/
structure Leads (F L R x : Int) (K A : List (Int × Int)) : Prop where
  sub : ∀ k ∈ K, k ∈ A
  order : K.Pairwise fun a b => a.1 ≤ b.1
  dom : ∀ a ∈ A, ∃ k ∈ K, Dom F L R x k a
  at' : ∀ a ∈ A, a.1 ≤ x
theorem leads_none (F L R : Int) : Leads F L R 0 [] [] := ⟨fun _ h => h, List.Pairwise.nil, (fun a h => by cases h), fun a h => by cases h⟩
theorem Leads.next {F L R x X Y : Int} {K A : List (Int × Int)} (h : Leads F L R x K A) (hs : F ≤ R) : Leads F L R (nextX x X) (sNext F L R x X Y K) (A ++ [(nextX x X, capN Y)]) := by
  have hx := nextX_ge x X
  have hord : (K ++ [(nextX x X, capN Y)]).Pairwise fun a b => a.1 ≤ b.1 := by
    rw [List.pairwise_append]
    refine ⟨h.order, List.pairwise_singleton .., fun a ha b hb => ?_⟩
    rw [List.mem_singleton.1 hb]
    exact Int.le_trans (h.at' a (h.sub a ha)) hx
  refine ⟨fun k hk => ?_, ?_, fun a ha => ?_, fun a ha => ?_⟩
  · unfold sNext sKept at hk
    rcases mem_sFold (List.mem_reverse.1 hk) with m | m
    · cases m
    · rcases List.mem_append.1 m with m | m
      · exact List.mem_append_left _ (h.sub k m)
      · exact List.mem_append_right _ m
  · unfold sNext sKept
    rw [List.pairwise_reverse]
    exact fold_order (fun c hc => by cases hc) hord List.Pairwise.nil
  · have key : ∀ b, b ∈ K ++ [(nextX x X, capN Y)] → ∃ k ∈ sNext F L R x X Y K, Dom F L R (nextX x X) k b := fun b hb => by
      obtain ⟨k, hk, hd⟩ := dom_fold (F := F) (L := L) (R := R) (x := nextX x X) hs (K := K ++ [(nextX x X, capN Y)]) (O := []) (fun c hc => by cases hc) hord b (Or.inr hb)
      exact ⟨k, List.mem_reverse.2 hk, hd⟩
    rcases List.mem_append.1 ha with ha | ha
    · obtain ⟨b, hb, hd⟩ := h.dom a ha
      obtain ⟨k, hk, hd'⟩ := key b (List.mem_append_left _ hb)
      exact ⟨k, hk, hd'.trans (hd.later hx)⟩
    · exact key a (List.mem_append_right _ ha)
  · rcases List.mem_append.1 ha with ha | ha
    · exact Int.le_trans (h.at' a ha) hx
    · rw [List.mem_singleton.1 ha]; exact Int.le_refl _
/-- So both have y at the same ticks. -/
theorem Leads.same {F L R x : Int} {K A : List (Int × Int)} (h : Leads F L R x K A) {t y : Int} (ht : x ≤ t) : (∀ k ∈ K, y ≤ sHas F L R t k) ↔ (∀ a ∈ A, y ≤ sHas F L R t a) := by
  constructor
  · intro hk a ha
    obtain ⟨k, hm, hd⟩ := h.dom a ha
    exact Int.le_trans (hk k hm) (hd t ht)
  · intro ha k hk
    exact ha k (h.sub k hk)

/-! ### When so much is reached -/
theorem sGo_at {F L R y : Int} (hm : May F L R) (hy : 0 ≤ y) (hy1 : y ≤ 4611686018427387904) : ∀ {K : List (Int × Int)} {a t : Int}, (∀ k ∈ K, 0 ≤ k.1 ∧ k.1 ≤ t ∧ 0 ≤ k.2 ∧ k.2 ≤ 4611686018427387904) → a ≤ t → t < 9223372036854775808 →
    (sGo (fun k => reachN F L R (minusN y k.2)) K a ≤ t ↔ ∀ k ∈ K, y ≤ sHas F L R t k)
  | [], a, t, _, ha, _ => ⟨fun _ k hk => (by cases hk), fun _ => ha⟩
  | k :: K, a, t, hK, ha, ht => by
    have hk := hK k (List.mem_cons_self ..)
    have hm0 : 0 ≤ minusN y k.2 := by unfold minusN; split; exact Int.le_refl _; exact stop_nonneg (by omega)
    have hr := reach_at (F := F) (L := L) (R := R) (y := minusN y k.2) (t := t - k.1) hm hm0 (by omega) (by omega)
    have hraw := rawN_nonneg (t := t - k.1) hm (by omega)
    have hh : minusN y k.2 ≤ atN F L R (t - k.1) ↔ y ≤ sHas F L R t k := by
      unfold sHas atN minusN
      split
      · exact ⟨fun _ => by omega, fun _ => stop_nonneg hraw⟩
      · rw [stop_small (by omega), stop_ge (by omega)]
        omega
    have ih := sGo_at (F := F) (L := L) (R := R) (y := y) hm hy hy1 (K := K) (a := max a (k.1 + reachN F L R (minusN y k.2))) (fun q hq => hK q (List.mem_cons_of_mem _ hq))
    unfold sGo
    constructor
    · intro h q hq
      split at h
      · omega
      · rename_i hn
        have hle : max a (k.1 + reachN F L R (minusN y k.2)) ≤ sGo (fun k => reachN F L R (minusN y k.2)) K (max a (k.1 + reachN F L R (minusN y k.2))) := by
          have := (reach_bounds (F := F) (L := L) (R := R) (y := minusN y k.2) hm hm0)
          exact sGo_ge (by omega)
        have hmx : max a (k.1 + reachN F L R (minusN y k.2)) ≤ t := Int.le_trans hle h
        rcases List.mem_cons.1 hq with rfl | hq
        · exact hh.1 (hr.2 (by omega))
        · exact (ih hmx ht).1 h q hq
    · intro h
      have h1 := hr.1 (hh.2 (h k (List.mem_cons_self ..)))
      rw [if_neg (by omega)]
      exact (ih (by omega) ht).2 (fun q hq => h q (List.mem_cons_of_mem _ hq))

end Go.Proofs.YtjhffbhjiflfeaaGreat

/-!
  A run beside the document's: all copies, and what is kept of them, plainly.
-/
namespace Go.Proofs.YtjhffbhjiflfeaaGreat
set_option linter.unusedVariables false
set_option linter.unusedSimpArgs false

def xs (A : List (Int × Int)) (i : Nat) : Int := (A.getD i (0, 0)).1
def ys (A : List (Int × Int)) (i : Nat) : Int := (A.getD i (0, 0)).2
def lastA (A : List (Int × Int)) : Int := lastOf (xs A) A.length
def RS.last : RS → Int
  | .bent _ _ _ _ x _ _ => x
  | .sag _ _ _ _ x _ => x
theorem getD_app_lt {A : List (Int × Int)} {a d : Int × Int} {i : Nat} (h : i < A.length) : (A ++ [a]).getD i d = A.getD i d := by
  rw [List.getD_eq_getElem?_getD, List.getD_eq_getElem?_getD, List.getElem?_append_left h]
theorem getD_app_eq {A : List (Int × Int)} {a d : Int × Int} : (A ++ [a]).getD A.length d = a := by
  rw [List.getD_eq_getElem?_getD, List.getElem?_append_right (Nat.le_refl _), Nat.sub_self]
  rfl
theorem getD_mem {A : List (Int × Int)} {i : Nat} (h : i < A.length) (d : Int × Int) : A.getD i d ∈ A := by
  rw [List.getD_eq_getElem?_getD, List.getElem?_eq_getElem h]
  exact List.getElem_mem h
theorem all_getD {A : List (Int × Int)} {P : Int × Int → Prop} : (∀ a ∈ A, P a) ↔ ∀ i, i < A.length → P (A.getD i (0, 0)) := by
  constructor
  · exact fun h i hi => h _ (getD_mem hi _)
  · intro h a ha
    obtain ⟨i, hi, rfl⟩ := List.getElem_of_mem ha
    have := h i hi
    rw [List.getD_eq_getElem?_getD, List.getElem?_eq_getElem hi] at this
    exact this
theorem lastA_nil : lastA [] = 0 := rfl
theorem lastA_app (A : List (Int × Int)) (a : Int × Int) : lastA (A ++ [a]) = a.1 := by
  unfold lastA
  rw [List.length_append]
  show xs (A ++ [a]) A.length = a.1
  unfold xs
  rw [getD_app_eq]
theorem lastA_at {A : List (Int × Int)} {m : Nat} (h : A.length = m + 1) : lastA A = xs A m := by unfold lastA; rw [h]; rfl
theorem minG_congr {G H : Nat → Int} {k : Nat} (h : ∀ i, i ≤ k → G i = H i) : minG G k = minG H k := by
  induction k with
  | zero => exact h 0 (Nat.le_refl _)
  | succ k ih =>
    unfold minG
    rw [ih (fun i hi => h i (by omega)), h (k + 1) (Nat.le_refl _)]
theorem le_minG {G : Nat → Int} {k : Nat} {y : Int} : y ≤ minG G k ↔ ∀ i, i ≤ k → y ≤ G i := by
  constructor
  · exact fun h i hi => Int.le_trans h (minG_le hi)
  · intro h
    obtain ⟨i, hi, e⟩ := minG_is G k
    rw [e]
    exact h i hi
theorem runX_congr {X X' : Nat → Int} {k : Nat} (h : ∀ i, i < k → X i = X' i) : runX X k = runX X' k := by
  induction k with
  | zero => rfl
  | succ k ih =>
    unfold runX
    rw [ih (fun i hi => h i (by omega)), h k (by omega)]
theorem runH_congr {X X' Y Y' : Nat → Int} {S O : Int} {k : Nat} (h : ∀ i, i < k → X i = X' i) (hy : ∀ i, i < k → Y i = Y' i) : runH X Y S O k = runH X' Y' S O k := by
  induction k with
  | zero => rfl
  | succ k ih =>
    unfold runH
    rw [ih (fun i hi => h i (by omega)) (fun i hi => hy i (by omega)), runX_congr (fun i hi => h i (by omega)), h k (by omega), hy k (by omega)]
/-- What the run holds of all its copies. -/
def RunHas : RS → Int → Int → Int → List (Int × Int) → Prop
  | .bent F' L' R' _ x f r, F, L, R, A => F' = F ∧ L' = L ∧ R' = R ∧ R < F ∧ ∃ X Y : Nat → Int, (∀ i, 0 ≤ Y i) ∧ x = runX X A.length ∧ f = runH X Y F 0 A.length ∧ r = runH X Y R ((F - R) * L) A.length ∧ ∀ i, i < A.length → A.getD i (0, 0) = (runX X (i + 1), capN (Y i))
  | .sag F' L' R' _ x K, F, L, R, A => F' = F ∧ L' = L ∧ R' = R ∧ F ≤ R ∧ Leads F L R x K A
structure RunRel (s : RS) (F L R : Int) (A : List (Int × Int)) : Prop where
  may : May F L R
  many : s.many = A.length
  last : s.last = lastA A
  x0 : 0 ≤ lastA A
  x1 : lastA A ≤ 9223372036854775808
  pos : ∀ a ∈ A, 0 ≤ a.1 ∧ a.1 ≤ lastA A ∧ 0 ≤ a.2 ∧ a.2 ≤ 4611686018427387904
  rest : RunHas s F L R A
theorem RunRel.new {F L R : Int} (hm : May F L R) : RunRel (RS.new F L R) F L R [] := by
  unfold RS.new
  split
  · rename_i hb
    exact ⟨hm, rfl, rfl, Int.le_refl _, by decide, (fun a h => by cases h), rfl, rfl, rfl, hb, fun _ => 0, fun _ => 0, fun _ => Int.le_refl _, rfl, rfl, rfl, fun i hi => by cases hi⟩
  · rename_i hb
    exact ⟨hm, rfl, rfl, Int.le_refl _, by decide, (fun a h => by cases h), rfl, rfl, rfl, by omega, leads_none F L R⟩
/-- The copy that starts. -/
def newC (A : List (Int × Int)) (X Y : Int) : Int × Int := (nextX (lastA A) X, capN Y)
theorem RunRel.start {s : RS} {F L R : Int} {A : List (Int × Int)} (h : RunRel s F L R A) {X Y : Int} (hY : 0 ≤ Y) : RunRel (s.start X Y) F L R (A ++ [newC A X Y]) := by
  have hl : lastA (A ++ [newC A X Y]) = nextX (lastA A) X := lastA_app _ _
  have hge := nextX_ge (lastA A) X
  have hle := nextX_le (X := X) h.x1
  have hc := cap_bounds hY
  have hx0 := h.x0
  have hlen : (A ++ [newC A X Y]).length = A.length + 1 := by simp
  have hpos : ∀ a ∈ A ++ [newC A X Y], 0 ≤ a.1 ∧ a.1 ≤ lastA (A ++ [newC A X Y]) ∧ 0 ≤ a.2 ∧ a.2 ≤ 4611686018427387904 := by
    intro a ha
    rw [hl]
    rcases List.mem_append.1 ha with ha | ha
    · have := h.pos a ha; omega
    · rw [List.mem_singleton.1 ha]
      exact ⟨by show 0 ≤ nextX _ _; omega, Int.le_refl _, hc.1, hc.2⟩
  refine ⟨h.may, by rw [show (s.start X Y).many = s.many + 1 by cases s <;> rfl, h.many, hlen]; omega, ?_, by rw [hl]; omega, by rw [hl]; exact hle, hpos, ?_⟩
  · rw [hl, ← h.last]
    cases s <;> rfl
  · have hr := h.rest
    have hlast := h.last
    have hmany := h.many
    cases s with
    | bent F' L' R' n x f r =>
      obtain ⟨rfl, rfl, rfl, hb, X0, Y0, hY0, hx, hf, hr, hA⟩ := hr
      have hn : n = (A.length : Int) := hmany
      have hxl : x = lastA A := hlast
      have cx : ∀ i, i < A.length → X0 i = (fun i => if i = A.length then X else X0 i) i := fun i hi => (if_neg (by omega)).symm
      have cy : ∀ i, i < A.length → Y0 i = (fun i => if i = A.length then Y else Y0 i) i := fun i hi => (if_neg (by omega)).symm
      refine ⟨rfl, rfl, rfl, hb, fun i => if i = A.length then X else X0 i, fun i => if i = A.length then Y else Y0 i, fun i => ?_, ?_, ?_, ?_, fun i hi => ?_⟩
      · show 0 ≤ (if i = A.length then Y else Y0 i)
        split
        · exact hY
        · exact hY0 i
      · rw [hlen]
        show nextX x X = nextX (runX _ A.length) (if A.length = A.length then X else _)
        rw [if_pos rfl, ← runX_congr cx, hx]
      · rw [hlen]
        show nextH _ 0 n x f X Y = nextH _ 0 (A.length : Int) (runX _ A.length) (runH _ _ _ _ A.length) (if A.length = A.length then X else _) (if A.length = A.length then Y else _)
        rw [if_pos rfl, if_pos rfl, ← runX_congr cx, ← runH_congr cx cy, hx, hf, hn]
      · rw [hlen]
        show nextH _ _ n x r X Y = nextH _ _ (A.length : Int) (runX _ A.length) (runH _ _ _ _ A.length) (if A.length = A.length then X else _) (if A.length = A.length then Y else _)
        rw [if_pos rfl, if_pos rfl, ← runX_congr cx, ← runH_congr cx cy, hx, hr, hn]
      · rw [hlen] at hi
        rcases Nat.lt_or_ge i A.length with hlt | hge
        · rw [getD_app_lt hlt, hA i hlt]
          show _ = (runX _ (i + 1), capN (if i = A.length then Y else Y0 i))
          rw [if_neg (by omega), runX_congr (k := i + 1) (fun j hj => cx j (by omega))]
        · obtain rfl : i = A.length := by omega
          rw [getD_app_eq]
          show newC A X Y = (nextX (runX _ A.length) (if A.length = A.length then X else _), capN (if A.length = A.length then Y else _))
          rw [if_pos rfl, if_pos rfl, ← runX_congr cx, ← hx, hxl]
          rfl
    | sag F' L' R' n x K =>
      obtain ⟨rfl, rfl, rfl, hs, hL⟩ := hr
      have hxl : x = lastA A := hlast
      refine ⟨rfl, rfl, rfl, hs, ?_⟩
      have := hL.next (X := X) (Y := Y) hs
      unfold newC
      rw [← hxl]
      exact this
/-- What all copies have at a tick. -/
def fA (F L R : Int) (A : List (Int × Int)) (t : Int) : Int := stopN (minG (fun i => rawN F L R (max t (lastA A) - xs A i) + ys A i) (A.length - 1))
theorem RunRel.reach {s : RS} {F L R : Int} {A : List (Int × Int)} (h : RunRel s F L R A) (ok : s.ok) {y : Int} (hy : 0 ≤ y) (hy1 : y ≤ 4611686018427387904) (hA : 0 < A.length) :
    lastA A ≤ s.reach y ∧ s.reach y ≤ 9223372036854775808 ∧ ∀ t, lastA A ≤ t → t < 9223372036854775808 → (y ≤ fA F L R A t ↔ s.reach y ≤ t) := by
  have hr := h.rest
  have hlast := h.last
  have hmany := h.many
  obtain ⟨m, hm⟩ : ∃ m, A.length = m + 1 := ⟨A.length - 1, by omega⟩
  have hm1 : A.length - 1 = m := by omega
  cases s with
  | bent F' L' R' n x f r =>
    obtain ⟨rfl, rfl, rfl, hb, X0, Y0, hY0, hx, hf, hr, hAt⟩ := hr
    have hn : n = (A.length : Int) := hmany
    have hxl : x = lastA A := hlast
    have ok : Made F' L' R' n x f r := ok
    have hre : (RS.bent F' L' R' n x f r).reach y = reachB F' R' x f r y := by
      show (if n = 0 then _ else _) = _
      rw [if_neg (by omega)]
    have hb2 := reachB_bounds (y := y) ok hy
    rw [hre, ← hxl]
    refine ⟨hb2.1, hb2.2, fun t ht ht1 => ?_⟩
    have e : fA F' L' R' A t = hasN F' R' x f r t := by
      unfold fA
      rw [hm1, ← hxl, Int.max_eq_left ht, hx, hf, hr, hm]
      rw [← ref_has (X := X0) (Y := Y0) h.may hb hY0 (m := m) (t := t) (by rw [← hm, ← hx]; exact ht)]
      congr 1
      refine minG_congr fun i hi => ?_
      unfold xs ys
      rw [hAt i (by omega)]
    rw [e]
    exact reachB_at ok hy ht ht1
  | sag F' L' R' n x K =>
    obtain ⟨rfl, rfl, rfl, hs, hL⟩ := hr
    have hn : n = (A.length : Int) := hmany
    have hxl : x = lastA A := hlast
    have hre : (RS.sag F' L' R' n x K).reach y = sGo (fun k => reachN F' L' R' (minusN y k.2)) K x := by
      show sReach F' L' R' n x K y = _
      unfold sReach
      rw [if_neg (by omega), if_neg (by omega)]
    have hx1 : x ≤ 9223372036854775808 := by rw [hxl]; exact h.x1
    rw [hre, ← hxl]
    refine ⟨sGo_ge hx1, sGo_le hx1, fun t ht ht1 => ?_⟩
    have hK : ∀ k ∈ K, 0 ≤ k.1 ∧ k.1 ≤ t ∧ 0 ≤ k.2 ∧ k.2 ≤ 4611686018427387904 := fun k hk => by
      have := h.pos k (hL.sub k hk)
      omega
    rw [sGo_at h.may hy hy1 hK ht ht1, hL.same ht, all_getD]
    unfold fA
    rw [stop_ge hy1, le_minG, hm1, ← hxl, Int.max_eq_left ht, hm]
    exact ⟨fun g i hi => g i (by omega), fun g i hi => g i (by omega)⟩
theorem RunRel.reach_none {s : RS} {F L R : Int} {A : List (Int × Int)} (h : RunRel s F L R A) {y : Int} (hA : A.length = 0) : s.reach y = if y = 0 then 0 else 9223372036854775808 := by
  have hmany := h.many
  rw [hA] at hmany
  cases s with
  | bent F' L' R' n x f r =>
    have hn : n = 0 := hmany
    show (if n = 0 then _ else _) = _
    rw [if_pos hn]
  | sag F' L' R' n x K =>
    have hn : n = 0 := hmany
    show sReach F' L' R' n x K y = _
    unfold sReach
    rw [if_pos hn]

end Go.Proofs.YtjhffbhjiflfeaaGreat

/-!
  The document's runs in memory: made, started, asked.
-/
namespace Go.Proofs.YtjhffbhjiflfeaaGreat
set_option linter.unusedVariables false
set_option linter.unusedSimpArgs false
set_option maxRecDepth 100000
open Go.RowKit Go.Shelf

theorem xs_app_lt {A : List (Int × Int)} {a : Int × Int} {i : Nat} (h : i < A.length) : xs (A ++ [a]) i = xs A i := by unfold xs; rw [getD_app_lt h]
theorem ys_app_lt {A : List (Int × Int)} {a : Int × Int} {i : Nat} (h : i < A.length) : ys (A ++ [a]) i = ys A i := by unfold ys; rw [getD_app_lt h]
theorem rowOf_congr {X Y : Nat → Int} {n : Nat} (h : ∀ i, i < n → X i = Y i) : rowOf X n = rowOf Y n := by
  unfold rowOf
  refine List.map_congr_left fun i hi => ?_
  rw [h i (List.mem_range.1 hi)]
/-- The document's run lies at r, its rows from B on. -/
structure RunD (w : World) (B r : Nat) (F L R : Int) (vx vy : Value) (A : List (Int × Int)) : Prop where
  lr : B ≤ r
  blk : Blk w r 106 #[.int .u64 F, .int .u64 L, .int .u64 R, vx, vy]
  ox : w.ownsRow B 28 1 vx A.length (rowOf (xs A) A.length)
  oy : w.ownsRow B 28 1 vy A.length (rowOf (ys A) A.length)
  ap : ∀ g, vx.ownBlock = some g → vy.ownBlock ≠ some g
section
variable {w w' : World} {B r : Nat} {F L R : Int} {vx vy : Value} {A : List (Int × Int)}
theorem RunD.fr {S : Nat → Prop} (h : RunD w B r F L R vx vy A) (hf : Fr S w w') (hr : ¬ S r) (hx : ∀ g, vx.ownBlock = some g ∨ vy.ownBlock = some g → ¬ S g) : RunD w' B r F L R vx vy A :=
  ⟨h.lr, h.blk.fr hf hr, ownsRow_fr h.ox hf fun g hg => hx g (Or.inl hg), ownsRow_fr h.oy hf fun g hg => hx g (Or.inr hg), h.ap⟩
theorem RunD.next (h : RunD w B r F L R vx vy A) (hb : Below w.heap.size w w') : RunD w' B r F L R vx vy A :=
  ⟨h.lr, h.blk.next hb, own_next h.ox hb, own_next h.oy hb, h.ap⟩
theorem RunD.nx (h : RunD w B r F L R vx vy A) : vx.ownBlock ≠ some r := ownU_ne h.blk (by decide) h.ox
theorem RunD.ny (h : RunD w B r F L R vx vy A) : vy.ownBlock ≠ some r := ownU_ne h.blk (by decide) h.oy
end

set_option maxHeartbeats 2000000 in
theorem rn_new (B : Nat) (F L R : Int) (w : World) (hB : B ≤ w.heap.size) (wL : Word L) (hm : mayB F L R = true) : Calls Tryz.prog 37 #[.agg #[.int .u64 F, .int .u64 L, .int .u64 R]] w fun e w' =>
    ∃ r, e = .returned (.pointer (some ⟨r, 0, none⟩)) ∧ w.heap.size ≤ r ∧ RunD w' B r F L R (.slice none 0 0) (.slice none 0 0) [] ∧ Below w.heap.size w w' := by
  have MA := Lib.hid (fun w => refmay_val F L R true w wL hm)
  clear hm
  go_enter Tryz.func37, Tryz.ntmps37
  go_wp2_with fail
  with_reducible refine (MA.out _).mono ?_
  rintro e w1 ⟨rfl, hb1⟩
  have Cm : Blk w1 (w.heap.size) 32 #[.int .u64 F, .int .u64 L, .int .u64 R] := Blk.next (by repeat (first | (refine Blk.new_at ?_; simp only [World.size_alloc]; done) | (with_reducible refine Blk.alloc ?_ _) | (with_reducible refine Blk.drewN ?_ _))) hb1
  have Cb := Cm
  clear Cm
  have Cc0 : World.cell? w1 ⟨w.heap.size, 0, none⟩ = some (.int .u64 F) := Cb.get 0 rfl
  have Cf0 := Blk.frozen Cb 0
  have Cc1 : World.cell? w1 ⟨w.heap.size, 1, none⟩ = some (.int .u64 L) := Cb.get 1 rfl
  have Cf1 := Blk.frozen Cb 1
  have Cc2 : World.cell? w1 ⟨w.heap.size, 2, none⟩ = some (.int .u64 R) := Cb.get 2 rfl
  have Cf2 := Blk.frozen Cb 2
  have Cn := Blk.lt Cb
  have B1 : Below w.heap.size w w1 := by first | with_reducible exact hb1 | exact Below.trans (by go_grown) (hb1.mono (by simp only [World.size_alloc]; omega))
  clear hb1
  go_wp2_with fail
  go_ret
  exact ⟨w1.heap.size, by simp, B1.size, ⟨Nat.le_trans hB B1.size, Blk.new w1 _ _, World.ownsRow_nil _ _ _ _, World.ownsRow_nil _ _ _ _, fun g hg => by cases hg⟩, B1.alloc B1.size _⟩

set_option maxHeartbeats 2000000 in
theorem rn_copies (B r : Nat) (F L R : Int) (vx vy : Value) (A : List (Int × Int)) (w : World) (h : RunD w B r F L R vx vy A) :
    Calls Tryz.prog 61 #[.pointer (some ⟨r, 0, none⟩)] w fun e w' => ∃ q, e = .returned (.pointer (some ⟨q, 0, none⟩)) ∧ w.heap.size ≤ q ∧ RowsC w' B q F L R vx vy A.length A.length (xs A) (ys A) ∧ Below w.heap.size w w' := by
  have H := Lib.hid h
  obtain ⟨Ax, cx, rfl⟩ := own_slice h.ox
  obtain ⟨Ay, cy, rfl⟩ := own_slice h.oy
  have KP : Hid (∀ w', Below (w.heap.size) w w' → (w'.cell? ⟨r, 0, none⟩ = some (.int .u64 F) ∧ w'.cell? ⟨r, 1, none⟩ = some (.int .u64 L) ∧ w'.cell? ⟨r, 2, none⟩ = some (.int .u64 R) ∧ w'.cell? ⟨r, 3, none⟩ = some (.slice Ax A.length cx) ∧ w'.cell? ⟨r, 4, none⟩ = some (.slice Ay A.length cy)) ∧ Below (w.heap.size) w w') := fun w' hb => ⟨⟨((H.out.blk.next hb).get 0 rfl), ((H.out.blk.next hb).get 1 rfl), ((H.out.blk.next hb).get 2 rfl), ((H.out.blk.next hb).get 3 rfl), ((H.out.blk.next hb).get 4 rfl)⟩, hb⟩
  clear h
  go_enter Tryz.func61, Tryz.ntmps61
  go_upto_region 1 with (fail)
  refine wp_region_noPanic ?_
  refine wp_region_held_drew (S := fun w' => (w'.cell? ⟨r, 0, none⟩ = some (.int .u64 F) ∧ w'.cell? ⟨r, 1, none⟩ = some (.int .u64 L) ∧ w'.cell? ⟨r, 2, none⟩ = some (.int .u64 R) ∧ w'.cell? ⟨r, 3, none⟩ = some (.slice Ax A.length cx) ∧ w'.cell? ⟨r, 4, none⟩ = some (.slice Ay A.length cy)) ∧ Below (w.heap.size) w w') (by kernel_rfl) (KP.out _ (below_of_drew ((Below.refl w.heap.size w)))) (fun hH => ?_)
  have hbR := below_of_drew ((Below.refl w.heap.size w))
  first | (refine wpAnyH_take (i := 0) (v := undef) rfl ?_ ?_ ?_ (fun _ _ _ h => h) ?_ ?_ ?_; kernel_rfl; kernel_rfl; kernel_rfl; exact Or.inr ⟨by rfl, rfl⟩; exact hH) | (refine wpAnyH_take (i := 0) (v := ?_) rfl ?_ ?_ ?_ (fun _ _ _ h => h) ?_ ?_ ?_; rotate_left; kernel_rfl; kernel_rfl; kernel_rfl; (focus (refine Or.inl ⟨by rfl, ?_⟩; intro w' hSw; (try dsimp only at hSw); go_simp)); exact hH) | (refine wpAnyH_take (i := 0) (v := ?_) rfl ?_ ?_ ?_ (fun _ _ _ h => h) ?_ ?_ ?_; rotate_left; kernel_rfl; kernel_rfl; kernel_rfl; (focus (refine Or.inl ⟨by rfl, ?_⟩; intro w' hSw; (try dsimp only at hSw); go_simp; with_reducible rfl)); exact hH)
  try simp only [Act.put, List.getElem_toArray, List.getElem_cons_succ, List.getElem_cons_zero, List.setIfInBounds_toArray, List.set_cons_zero, List.set_cons_succ]
  first | (refine wpAnyH_take (i := 1) (v := undef) rfl ?_ ?_ ?_ (fun _ _ _ h => h) ?_ ?_ ?_; kernel_rfl; kernel_rfl; kernel_rfl; exact Or.inr ⟨by rfl, rfl⟩; exact hH) | (refine wpAnyH_take (i := 1) (v := ?_) rfl ?_ ?_ ?_ (fun _ _ _ h => h) ?_ ?_ ?_; rotate_left; kernel_rfl; kernel_rfl; kernel_rfl; (focus (refine Or.inl ⟨by rfl, ?_⟩; intro w' hSw; (try dsimp only at hSw); go_simp)); exact hH) | (refine wpAnyH_take (i := 1) (v := ?_) rfl ?_ ?_ ?_ (fun _ _ _ h => h) ?_ ?_ ?_; rotate_left; kernel_rfl; kernel_rfl; kernel_rfl; (focus (refine Or.inl ⟨by rfl, ?_⟩; intro w' hSw; (try dsimp only at hSw); go_simp; with_reducible rfl)); exact hH)
  try simp only [Act.put, List.getElem_toArray, List.getElem_cons_succ, List.getElem_cons_zero, List.setIfInBounds_toArray, List.set_cons_zero, List.set_cons_succ]
  first | (refine wpAnyH_take (i := 2) (v := undef) rfl ?_ ?_ ?_ (fun _ _ _ h => h) ?_ ?_ ?_; kernel_rfl; kernel_rfl; kernel_rfl; exact Or.inr ⟨by rfl, rfl⟩; exact hH) | (refine wpAnyH_take (i := 2) (v := ?_) rfl ?_ ?_ ?_ (fun _ _ _ h => h) ?_ ?_ ?_; rotate_left; kernel_rfl; kernel_rfl; kernel_rfl; (focus (refine Or.inl ⟨by rfl, ?_⟩; intro w' hSw; (try dsimp only at hSw); go_simp)); exact hH) | (refine wpAnyH_take (i := 2) (v := ?_) rfl ?_ ?_ ?_ (fun _ _ _ h => h) ?_ ?_ ?_; rotate_left; kernel_rfl; kernel_rfl; kernel_rfl; (focus (refine Or.inl ⟨by rfl, ?_⟩; intro w' hSw; (try dsimp only at hSw); go_simp; with_reducible rfl)); exact hH)
  try simp only [Act.put, List.getElem_toArray, List.getElem_cons_succ, List.getElem_cons_zero, List.setIfInBounds_toArray, List.set_cons_zero, List.set_cons_succ]
  first | (refine wpAnyH_take (i := 3) (v := undef) rfl ?_ ?_ ?_ (fun _ _ _ h => h) ?_ ?_ ?_; kernel_rfl; kernel_rfl; kernel_rfl; exact Or.inr ⟨by rfl, rfl⟩; exact hH) | (refine wpAnyH_take (i := 3) (v := ?_) rfl ?_ ?_ ?_ (fun _ _ _ h => h) ?_ ?_ ?_; rotate_left; kernel_rfl; kernel_rfl; kernel_rfl; (focus (refine Or.inl ⟨by rfl, ?_⟩; intro w' hSw; (try dsimp only at hSw); go_simp)); exact hH) | (refine wpAnyH_take (i := 3) (v := ?_) rfl ?_ ?_ ?_ (fun _ _ _ h => h) ?_ ?_ ?_; rotate_left; kernel_rfl; kernel_rfl; kernel_rfl; (focus (refine Or.inl ⟨by rfl, ?_⟩; intro w' hSw; (try dsimp only at hSw); go_simp; with_reducible rfl)); exact hH)
  try simp only [Act.put, List.getElem_toArray, List.getElem_cons_succ, List.getElem_cons_zero, List.setIfInBounds_toArray, List.set_cons_zero, List.set_cons_succ]
  first | (refine wpAnyH_take (i := 4) (v := undef) rfl ?_ ?_ ?_ (fun _ _ _ h => h) ?_ ?_ ?_; kernel_rfl; kernel_rfl; kernel_rfl; exact Or.inr ⟨by rfl, rfl⟩; exact hH) | (refine wpAnyH_take (i := 4) (v := ?_) rfl ?_ ?_ ?_ (fun _ _ _ h => h) ?_ ?_ ?_; rotate_left; kernel_rfl; kernel_rfl; kernel_rfl; (focus (refine Or.inl ⟨by rfl, ?_⟩; intro w' hSw; (try dsimp only at hSw); go_simp)); exact hH) | (refine wpAnyH_take (i := 4) (v := ?_) rfl ?_ ?_ ?_ (fun _ _ _ h => h) ?_ ?_ ?_; rotate_left; kernel_rfl; kernel_rfl; kernel_rfl; (focus (refine Or.inl ⟨by rfl, ?_⟩; intro w' hSw; (try dsimp only at hSw); go_simp; with_reducible rfl)); exact hH)
  try simp only [Act.put, List.getElem_toArray, List.getElem_cons_succ, List.getElem_cons_zero, List.setIfInBounds_toArray, List.set_cons_zero, List.set_cons_succ]
  first | (refine wpAnyH_take (i := 5) (v := undef) rfl ?_ ?_ ?_ (fun _ _ _ h => h) ?_ ?_ ?_; kernel_rfl; kernel_rfl; kernel_rfl; exact Or.inr ⟨by rfl, rfl⟩; exact hH) | (refine wpAnyH_take (i := 5) (v := ?_) rfl ?_ ?_ ?_ (fun _ _ _ h => h) ?_ ?_ ?_; rotate_left; kernel_rfl; kernel_rfl; kernel_rfl; (focus (refine Or.inl ⟨by rfl, ?_⟩; intro w' hSw; (try dsimp only at hSw); go_simp)); exact hH) | (refine wpAnyH_take (i := 5) (v := ?_) rfl ?_ ?_ ?_ (fun _ _ _ h => h) ?_ ?_ ?_; rotate_left; kernel_rfl; kernel_rfl; kernel_rfl; (focus (refine Or.inl ⟨by rfl, ?_⟩; intro w' hSw; (try dsimp only at hSw); go_simp; with_reducible rfl)); exact hH)
  try simp only [Act.put, List.getElem_toArray, List.getElem_cons_succ, List.getElem_cons_zero, List.setIfInBounds_toArray, List.set_cons_zero, List.set_cons_succ]
  first | (refine wpAnyH_take (i := 6) (v := undef) rfl ?_ ?_ ?_ (fun _ _ _ h => h) ?_ ?_ ?_; kernel_rfl; kernel_rfl; kernel_rfl; exact Or.inr ⟨by rfl, rfl⟩; exact hH) | (refine wpAnyH_take (i := 6) (v := ?_) rfl ?_ ?_ ?_ (fun _ _ _ h => h) ?_ ?_ ?_; rotate_left; kernel_rfl; kernel_rfl; kernel_rfl; (focus (refine Or.inl ⟨by rfl, ?_⟩; intro w' hSw; (try dsimp only at hSw); go_simp)); exact hH) | (refine wpAnyH_take (i := 6) (v := ?_) rfl ?_ ?_ ?_ (fun _ _ _ h => h) ?_ ?_ ?_; rotate_left; kernel_rfl; kernel_rfl; kernel_rfl; (focus (refine Or.inl ⟨by rfl, ?_⟩; intro w' hSw; (try dsimp only at hSw); go_simp; with_reducible rfl)); exact hH)
  try simp only [Act.put, List.getElem_toArray, List.getElem_cons_succ, List.getElem_cons_zero, List.setIfInBounds_toArray, List.set_cons_zero, List.set_cons_succ]
  first | (refine wpAnyH_take (i := 7) (v := undef) rfl ?_ ?_ ?_ (fun _ _ _ h => h) ?_ ?_ ?_; kernel_rfl; kernel_rfl; kernel_rfl; exact Or.inr ⟨by rfl, rfl⟩; exact hH) | (refine wpAnyH_take (i := 7) (v := ?_) rfl ?_ ?_ ?_ (fun _ _ _ h => h) ?_ ?_ ?_; rotate_left; kernel_rfl; kernel_rfl; kernel_rfl; (focus (refine Or.inl ⟨by rfl, ?_⟩; intro w' hSw; (try dsimp only at hSw); go_simp)); exact hH) | (refine wpAnyH_take (i := 7) (v := ?_) rfl ?_ ?_ ?_ (fun _ _ _ h => h) ?_ ?_ ?_; rotate_left; kernel_rfl; kernel_rfl; kernel_rfl; (focus (refine Or.inl ⟨by rfl, ?_⟩; intro w' hSw; (try dsimp only at hSw); go_simp; with_reducible rfl)); exact hH)
  try simp only [Act.put, List.getElem_toArray, List.getElem_cons_succ, List.getElem_cons_zero, List.setIfInBounds_toArray, List.set_cons_zero, List.set_cons_succ]
  first | (refine wpAnyH_take (i := 8) (v := undef) rfl ?_ ?_ ?_ (fun _ _ _ h => h) ?_ ?_ ?_; kernel_rfl; kernel_rfl; kernel_rfl; exact Or.inr ⟨by rfl, rfl⟩; exact hH) | (refine wpAnyH_take (i := 8) (v := ?_) rfl ?_ ?_ ?_ (fun _ _ _ h => h) ?_ ?_ ?_; rotate_left; kernel_rfl; kernel_rfl; kernel_rfl; (focus (refine Or.inl ⟨by rfl, ?_⟩; intro w' hSw; (try dsimp only at hSw); go_simp)); exact hH) | (refine wpAnyH_take (i := 8) (v := ?_) rfl ?_ ?_ ?_ (fun _ _ _ h => h) ?_ ?_ ?_; rotate_left; kernel_rfl; kernel_rfl; kernel_rfl; (focus (refine Or.inl ⟨by rfl, ?_⟩; intro w' hSw; (try dsimp only at hSw); go_simp; with_reducible rfl)); exact hH)
  try simp only [Act.put, List.getElem_toArray, List.getElem_cons_succ, List.getElem_cons_zero, List.setIfInBounds_toArray, List.set_cons_zero, List.set_cons_succ]
  first | (refine wpAnyH_take (i := 9) (v := undef) rfl ?_ ?_ ?_ (fun _ _ _ h => h) ?_ ?_ ?_; kernel_rfl; kernel_rfl; kernel_rfl; exact Or.inr ⟨by rfl, rfl⟩; exact hH) | (refine wpAnyH_take (i := 9) (v := ?_) rfl ?_ ?_ ?_ (fun _ _ _ h => h) ?_ ?_ ?_; rotate_left; kernel_rfl; kernel_rfl; kernel_rfl; (focus (refine Or.inl ⟨by rfl, ?_⟩; intro w' hSw; (try dsimp only at hSw); go_simp)); exact hH) | (refine wpAnyH_take (i := 9) (v := ?_) rfl ?_ ?_ ?_ (fun _ _ _ h => h) ?_ ?_ ?_; rotate_left; kernel_rfl; kernel_rfl; kernel_rfl; (focus (refine Or.inl ⟨by rfl, ?_⟩; intro w' hSw; (try dsimp only at hSw); go_simp; with_reducible rfl)); exact hH)
  try simp only [Act.put, List.getElem_toArray, List.getElem_cons_succ, List.getElem_cons_zero, List.setIfInBounds_toArray, List.set_cons_zero, List.set_cons_succ]
  first | (refine wpAnyH_take (i := 10) (v := undef) rfl ?_ ?_ ?_ (fun _ _ _ h => h) ?_ ?_ ?_; kernel_rfl; kernel_rfl; kernel_rfl; exact Or.inr ⟨by rfl, rfl⟩; exact hH) | (refine wpAnyH_take (i := 10) (v := ?_) rfl ?_ ?_ ?_ (fun _ _ _ h => h) ?_ ?_ ?_; rotate_left; kernel_rfl; kernel_rfl; kernel_rfl; (focus (refine Or.inl ⟨by rfl, ?_⟩; intro w' hSw; (try dsimp only at hSw); go_simp)); exact hH) | (refine wpAnyH_take (i := 10) (v := ?_) rfl ?_ ?_ ?_ (fun _ _ _ h => h) ?_ ?_ ?_; rotate_left; kernel_rfl; kernel_rfl; kernel_rfl; (focus (refine Or.inl ⟨by rfl, ?_⟩; intro w' hSw; (try dsimp only at hSw); go_simp; with_reducible rfl)); exact hH)
  try simp only [Act.put, List.getElem_toArray, List.getElem_cons_succ, List.getElem_cons_zero, List.setIfInBounds_toArray, List.set_cons_zero, List.set_cons_succ]
  first | (refine wpAnyH_take (i := 11) (v := undef) rfl ?_ ?_ ?_ (fun _ _ _ h => h) ?_ ?_ ?_; kernel_rfl; kernel_rfl; kernel_rfl; exact Or.inr ⟨by rfl, rfl⟩; exact hH) | (refine wpAnyH_take (i := 11) (v := ?_) rfl ?_ ?_ ?_ (fun _ _ _ h => h) ?_ ?_ ?_; rotate_left; kernel_rfl; kernel_rfl; kernel_rfl; (focus (refine Or.inl ⟨by rfl, ?_⟩; intro w' hSw; (try dsimp only at hSw); go_simp)); exact hH) | (refine wpAnyH_take (i := 11) (v := ?_) rfl ?_ ?_ ?_ (fun _ _ _ h => h) ?_ ?_ ?_; rotate_left; kernel_rfl; kernel_rfl; kernel_rfl; (focus (refine Or.inl ⟨by rfl, ?_⟩; intro w' hSw; (try dsimp only at hSw); go_simp; with_reducible rfl)); exact hH)
  try simp only [Act.put, List.getElem_toArray, List.getElem_cons_succ, List.getElem_cons_zero, List.setIfInBounds_toArray, List.set_cons_zero, List.set_cons_succ]
  first | (refine wpAnyH_take (i := 12) (v := undef) rfl ?_ ?_ ?_ (fun _ _ _ h => h) ?_ ?_ ?_; kernel_rfl; kernel_rfl; kernel_rfl; exact Or.inr ⟨by rfl, rfl⟩; exact hH) | (refine wpAnyH_take (i := 12) (v := ?_) rfl ?_ ?_ ?_ (fun _ _ _ h => h) ?_ ?_ ?_; rotate_left; kernel_rfl; kernel_rfl; kernel_rfl; (focus (refine Or.inl ⟨by rfl, ?_⟩; intro w' hSw; (try dsimp only at hSw); go_simp)); exact hH) | (refine wpAnyH_take (i := 12) (v := ?_) rfl ?_ ?_ ?_ (fun _ _ _ h => h) ?_ ?_ ?_; rotate_left; kernel_rfl; kernel_rfl; kernel_rfl; (focus (refine Or.inl ⟨by rfl, ?_⟩; intro w' hSw; (try dsimp only at hSw); go_simp; with_reducible rfl)); exact hH)
  try simp only [Act.put, List.getElem_toArray, List.getElem_cons_succ, List.getElem_cons_zero, List.setIfInBounds_toArray, List.set_cons_zero, List.set_cons_succ]
  refine wpAnyH_ready (rs := [13]) (by kernel_rfl) (by simp) ?_
  refine (AllReadyH.cons rfl (fun K hK => ?_) AllReadyH.nil)
  go_simp
  have QBb1 : Blk (w.drew.alloc (.cells #[.int .u64 F, .int .u64 L, .int .u64 R, .slice Ax A.length cx, .slice Ay A.length cy] 111)) (w.heap.size) 111 #[.int .u64 F, .int .u64 L, .int .u64 R, .slice Ax A.length cx, .slice Ay A.length cy] := Blk.new_at (by simp)
  have QGQB : w.heap.size ≤ w.heap.size := Nat.le_trans (Below.size (hbR)) (Nat.le_of_eq (by simp))
  have hb1 := Below.alloc (hbR) (Below.size (hbR)) (.cells #[.int .u64 F, .int .u64 L, .int .u64 R, .slice Ax A.length cx, .slice Ay A.length cy] 111)
  refine hK.out _ _ (KP.out _ hb1) (fun hH1 => ?_)
  clear hK K hH
  have hH := hH1
  clear hH1
  try simp only [Act.put, List.getElem_toArray, List.getElem_cons_succ, List.getElem_cons_zero, List.setIfInBounds_toArray, List.set_cons_zero, List.set_cons_succ]
  first | (refine wpAnyH_take (i := 14) (v := undef) rfl ?_ ?_ ?_ (fun _ _ _ h => h) ?_ ?_ ?_; kernel_rfl; kernel_rfl; kernel_rfl; exact Or.inr ⟨by rfl, rfl⟩; exact hH) | (refine wpAnyH_take (i := 14) (v := ?_) rfl ?_ ?_ ?_ (fun _ _ _ h => h) ?_ ?_ ?_; rotate_left; kernel_rfl; kernel_rfl; kernel_rfl; (focus (refine Or.inl ⟨by rfl, ?_⟩; intro w' hSw; (try dsimp only at hSw); go_simp)); exact hH) | (refine wpAnyH_take (i := 14) (v := ?_) rfl ?_ ?_ ?_ (fun _ _ _ h => h) ?_ ?_ ?_; rotate_left; kernel_rfl; kernel_rfl; kernel_rfl; (focus (refine Or.inl ⟨by rfl, ?_⟩; intro w' hSw; (try dsimp only at hSw); go_simp; with_reducible rfl)); exact hH)
  try simp only [Act.put, List.getElem_toArray, List.getElem_cons_succ, List.getElem_cons_zero, List.setIfInBounds_toArray, List.set_cons_zero, List.set_cons_succ]
  refine wpAnyH_done (by kernel_rfl) ?_ _
  refine NoPanic.normal ?_
  clear hH
  have QBb := QBb1
  have hbG := hb1
  try clear hH
  go_wp2_with fail
  go_ret
  exact ⟨_, by simp, QGQB, ⟨QBb, own_next H.out.ox hbG, own_next H.out.oy hbG, H.out.ap⟩, hbG⟩

set_option maxHeartbeats 4000000 in
/-- When the document's run has so much. -/
theorem rn_reach (B r : Nat) (F L R : Int) (vx vy : Value) (A : List (Int × Int)) (s : RS) (y v : Int) (w : World) (h : RunD w B r F L R vx vy A) (hs : RunRel s F L R A) (ok : s.ok) (hn : A.length ≤ 1000000) (hy0 : 0 ≤ y) (hy1 : y ≤ 4611686018427387904) (hv : s.reach y = v) :
    Calls Tryz.prog 46 #[.pointer (some ⟨r, 0, none⟩), .int .u64 y] w fun e w' => e = .returned (.int .u64 v) ∧ Below w.heap.size w w' := by
  have CP := Lib.hid (rn_copies B r F L R vx vy A w h)
  have RE : Hid (∀ q w', IsCq w' q F L R A.length (xs A) (ys A) → Calls Tryz.prog 63 #[.pointer (some ⟨q, 0, none⟩), .int .u64 y] w' fun e w'' => e = .returned (.int .u64 v) ∧ Below w'.heap.size w' w'') := by
    intro q w' hq
    rcases Nat.eq_zero_or_pos A.length with h0 | h0
    · rw [h0] at hq
      exact rreach_none q F L R (xs A) (ys A) y v w' hq (by rw [← hv, hs.reach_none h0])
    · obtain ⟨m, hm⟩ : ∃ m, A.length = m + 1 := ⟨A.length - 1, by omega⟩
      have hl := lastA_at hm
      obtain ⟨r1, r2, r3⟩ := hs.reach ok hy0 hy1 h0
      rw [hv] at r1 r2 r3
      rw [hm] at hq hn
      have hp : ∀ i, i ≤ m → 0 ≤ xs A i ∧ xs A i ≤ xs A m ∧ 0 ≤ ys A i ∧ ys A i ≤ 4611686018427387904 := fun i hi => by
        have := hs.pos _ (getD_mem (show i < A.length by omega) (0, 0))
        rw [hl] at this
        exact this
      have x0 := hs.x0
      have x1 := hs.x1
      rw [hl] at r1 r3 x0 x1
      refine rreach_any q F L R m (xs A) (ys A) y v (fA F L R A) w' hq hn ⟨by omega, by omega⟩ x0 x1 (fun w t hI wt => ?_) r1 r2 r3 (fun e => by omega)
      refine rat_any q F L R m (xs A) (ys A) t _ _ w hI hs.may hn (fun i hi => ⟨(hp i hi).1, (hp i hi).2.1⟩) x1 wt (fun i hi => (hp i hi).2.2) rfl ?_
      unfold fA
      rw [hl, hm, Nat.add_sub_cancel]
  clear h hs ok hn hv
  go_enter Tryz.func46, Tryz.ntmps46
  go_wp2_with fail
  with_reducible refine (CP.out).mono ?_
  rintro e w1 ⟨q, rfl, hq, hR, hb1⟩
  have RQ := Lib.hid (RE.out q w1 hR.cq)
  have B1 := Lib.hid hb1
  clear hR hb1
  go_wp2_with fail
  with_reducible refine (RQ.out).mono ?_
  rintro e w2 ⟨rfl, hb2⟩
  have B2 := Lib.hid (below_next B1.out hb2)
  clear hb2
  go_wp2_with fail
  go_ret
  exact ⟨rfl, B2.out⟩

set_option maxHeartbeats 4000000 in
/-- One copy more. -/
theorem rn_start (B r : Nat) (F L R : Int) (vx vy : Value) (A : List (Int × Int)) (x y : Int) (w : World) (h : RunD w B r F L R vx vy A) (hB : B ≤ w.heap.size) (hn : A.length ≤ 1000000) (wx : Word x) (wy : Word y) :
    Calls Tryz.prog 44 #[.pointer (some ⟨r, 0, none⟩), .int .u64 x, .int .u64 y] w fun e w' => e = .returned (.tuple #[]) ∧ ∃ vx' vy', RunD w' B r F L R vx' vy' (A ++ [newC A x y]) ∧ (∀ g, vx'.ownBlock = some g ∨ vy'.ownBlock = some g → (vx.ownBlock = some g ∨ vy.ownBlock = some g) ∨ w.heap.size ≤ g) ∧ Fr (fun k => k = r ∨ vx.ownBlock = some k ∨ vy.ownBlock = some k) w w' := by
  have CP := Lib.hid (rn_copies B r F L R vx vy A w h)
  have H := Lib.hid (And.intro h hB)
  have ST : Hid (∀ q w', RowsC w' B q F L R vx vy A.length A.length (xs A) (ys A) → w.heap.size ≤ w'.heap.size → Calls Tryz.prog 62 #[.pointer (some ⟨q, 0, none⟩), .int .u64 x, .int .u64 y] w' fun e w'' => e = .returned (.tuple #[]) ∧
      ∃ vx' vy', RowsC w'' B q F L R vx' vy' (A.length + 1) (A.length + 1) (xs (A ++ [newC A x y])) (ys (A ++ [newC A x y])) ∧ (∀ g, vx'.ownBlock = some g → vx.ownBlock = some g ∨ w'.heap.size ≤ g) ∧ (∀ g, vy'.ownBlock = some g → vy.ownBlock = some g ∨ w'.heap.size ≤ g) ∧ Fr (fun k => k = q ∨ vx.ownBlock = some k ∨ vy.ownBlock = some k) w' w'') := by
    intro q w' hq hle
    have e1 : lastOf (xs (A ++ [newC A x y])) A.length = lastA A := by
      unfold lastA
      rcases Nat.eq_zero_or_pos A.length with h0 | h0
      · rw [h0]; rfl
      · obtain ⟨m, hm⟩ : ∃ m, A.length = m + 1 := ⟨A.length - 1, by omega⟩
        rw [hm]
        exact xs_app_lt (by omega)
    refine rstart_c B q F L R vx vy A.length _ _ x y (lastA A) w' ?_ (Nat.le_trans hB hle) hn wx wy e1 ?_ ?_
    · obtain ⟨q1, q2, q3, q4⟩ := hq
      exact ⟨q1, by rw [rowOf_congr (fun i hi => xs_app_lt hi)]; exact q2, by rw [rowOf_congr (fun i hi => ys_app_lt hi)]; exact q3, q4⟩
    · unfold xs; rw [getD_app_eq]; rfl
    · unfold ys; rw [getD_app_eq]; rfl
  clear h hB hn wx wy
  go_enter Tryz.func44, Tryz.ntmps44
  go_wp2_with fail
  with_reducible refine (CP.out).mono ?_
  rintro e w1 ⟨q, rfl, hq, hR, hb1⟩
  have SQ := Lib.hid (ST.out q w1 hR hb1.size)
  have HN := Lib.hid hR
  have B1 := Lib.hid (And.intro hq hb1)
  clear hR hb1 hq
  go_wp2_with fail
  with_reducible refine (SQ.out).mono ?_
  rintro e w2 ⟨rfl, vx', vy', hR2, hx, hy, hf⟩
  have r1 := H.out.1.next B1.out.2
  have r2 := r1.blk.fr hf (by
    rintro (e | e | e)
    · have := H.out.1.blk.lt; have := B1.out.1; omega
    · exact r1.nx e
    · exact r1.ny e)
  have hne : r ≠ q := by have := H.out.1.blk.lt; have := B1.out.1; omega
  have hs12 := hf.size
  obtain ⟨Ax, cx, rfl⟩ := own_slice hR2.2.1
  obtain ⟨Ay, cy, rfl⟩ := own_slice hR2.2.2.1
  have Qc3 : World.cell? w2 ⟨q, 3, none⟩ = some (.slice Ax (A.length + 1) cx) := hR2.1.get 3 rfl
  have Qc4 : World.cell? w2 ⟨q, 4, none⟩ = some (.slice Ay (A.length + 1) cy) := hR2.1.get 4 rfl
  have Rc3 : World.cell? w2 ⟨r, 3, none⟩ = some vx := r2.get 3 rfl
  have Rc4 : World.cell? w2 ⟨r, 4, none⟩ = some vy := r2.get 4 rfl
  have Rf3 := r2.frozen 3
  have Rf4 := r2.frozen 4
  have H2 := Lib.hid (And.intro hR2 (And.intro hx (And.intro hy (And.intro hf (And.intro r2 hne)))))
  clear hR2 hx hy hf r1 r2
  go_wp2_with fail
  go_region
  go_wp2_with fail
  try go_end0
  obtain ⟨hR2, hx, hy, hf, r2, hne⟩ := H2.out
  have hlen : (A ++ [newC A x y]).length = A.length + 1 := by simp
  have hb := B1.out.2
  have fin : Fr (fun k => k = r) w2 ((w2.setCell ⟨r, 3, none⟩ (.slice Ax (A.length + 1) cx)).setCell ⟨r, 4, none⟩ (.slice Ay (A.length + 1) cy)).drew :=
    (((Fr.refl (fun k => k = r) w2).setCell (p := ⟨r, 3, none⟩) (fun _ => rfl) _).setCell (p := ⟨r, 4, none⟩) (fun _ => rfl) _).drew
  refine ⟨rfl, .slice Ax (A.length + 1) cx, .slice Ay (A.length + 1) cy, ⟨H.out.1.lr, (r2.put 3 _).put 4 _, ?_, ?_, hR2.2.2.2⟩, ?_, ?_⟩
  · rw [hlen]; exact ownsRow_fr hR2.2.1 fin fun k hk e => ownU_ne r2 (by decide) hR2.2.1 (by rw [hk]; exact congrArg some e)
  · rw [hlen]; exact ownsRow_fr hR2.2.2.1 fin fun k hk e => ownU_ne r2 (by decide) hR2.2.2.1 (by rw [hk]; exact congrArg some e)
  · rintro g (hg | hg)
    · rcases hx g hg with e | e
      · exact Or.inl (Or.inl e)
      · exact Or.inr (Nat.le_trans hb.size e)
    · rcases hy g hg with e | e
      · exact Or.inl (Or.inr e)
      · exact Or.inr (Nat.le_trans hb.size e)
  · have f1 : Fr (fun k => k = r ∨ vx.ownBlock = some k ∨ vy.ownBlock = some k) w w1 := Fr.of_new hb
    have f2 : Fr (fun k => k = r ∨ vx.ownBlock = some k ∨ vy.ownBlock = some k) w w2 := f1.then hf fun i hi hs => by
      rcases hs with rfl | hs
      · have := B1.out.1; omega
      · exact Or.inr hs
    exact f2.then fin fun i hi hs => Or.inl hs

end Go.Proofs.YtjhffbhjiflfeaaGreat
