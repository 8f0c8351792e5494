/-
  A family: where one would wake.
-/
import Derived.Test.YtjhffbhjiflfeaaGreatVirtF
import Derived.Test.YtjhffbhjiflfeaaGreatRegionZI
import Derived.Laws.EntriesVeiled
import Derived.Sort.CutIn
namespace Go.Proofs.YtjhffbhjiflfeaaGreat
set_option linter.unusedVariables false
set_option linter.unusedSimpArgs false
set_option maxRecDepth 100000
open Go.RowKit Go.Shelf
attribute [local go_sem] Oper.semAt_some

/-- The least, the greatest virtual time. -/
def lowOf : List Mem → Int
  | [] => 9223372036854775808
  | x :: D => min (lowOf D) x.v
def highOf : List Mem → Int
  | [] => 0
  | x :: D => max (highOf D) x.v
def startV (mark : Int) (A : List Mem) (v : Int) : Int := if highOf A < lowOf A then max v mark else max v (lowOf A + (highOf A - lowOf A) / 2)
theorem lowOf_snoc (x : Mem) : ∀ D : List Mem, lowOf (D ++ [x]) = min (lowOf D) x.v
  | [] => rfl
  | y :: D => by show min (lowOf (D ++ [x])) y.v = min (min (lowOf D) y.v) x.v; rw [lowOf_snoc x D]; omega
theorem highOf_snoc (x : Mem) : ∀ D : List Mem, highOf (D ++ [x]) = max (highOf D) x.v
  | [] => rfl
  | y :: D => by show max (highOf (D ++ [x])) y.v = max (max (highOf D) y.v) x.v; rw [highOf_snoc x D]; omega
theorem lowOf_perm {A B : List Mem} (h : A.Perm B) : lowOf A = lowOf B := by
  induction h with
  | nil => rfl
  | cons x _ ih => show min (lowOf _) x.v = min (lowOf _) x.v; rw [ih]
  | swap x y l => show min (min (lowOf l) x.v) y.v = min (min (lowOf l) y.v) x.v; omega
  | trans _ _ h1 h2 => rw [h1, h2]
theorem highOf_perm {A B : List Mem} (h : A.Perm B) : highOf A = highOf B := by
  induction h with
  | nil => rfl
  | cons x _ ih => show max (highOf _) x.v = max (highOf _) x.v; rw [ih]
  | swap x y l => show max (max (highOf l) x.v) y.v = max (max (highOf l) y.v) x.v; omega
  | trans _ _ h1 h2 => rw [h1, h2]
theorem low_bounds {D : List Mem} (h : ∀ x ∈ D, 0 ≤ x.v ∧ x.v ≤ 9223372036854775808) : 0 ≤ lowOf D ∧ lowOf D ≤ 9223372036854775808 ∧ 0 ≤ highOf D ∧ highOf D ≤ 9223372036854775808 := by
  induction D with
  | nil => simp [lowOf, highOf]
  | cons x D ih =>
    have h1 := h x (List.mem_cons_self ..)
    have h2 := ih fun y hy => h y (List.mem_cons_of_mem _ hy)
    show 0 ≤ min (lowOf D) x.v ∧ min (lowOf D) x.v ≤ _ ∧ 0 ≤ max (highOf D) x.v ∧ max (highOf D) x.v ≤ _
    omega

set_option maxHeartbeats 4000000 in
theorem vmeets_any (a b : Nat) (lo hi v : Int) (w : World) (ha : Blk w a 28 #[.int .u64 lo]) (hb : Blk w b 28 #[.int .u64 hi]) (hab : a ≠ b) :
    Calls Tryz.prog 59 #[.int .u64 v, .pointer (some ⟨a, 0, none⟩), .pointer (some ⟨b, 0, none⟩)] w fun e w' => e = .returned (.tuple #[]) ∧
      Blk w' a 28 #[.int .u64 (min lo v)] ∧ Blk w' b 28 #[.int .u64 (max hi v)] ∧ Fr (fun k => k = a ∨ k = b) w w' := by
  have ca := ha.get 0 rfl
  have cb := hb.get 0 rfl
  have fa := ha.frozen 0
  have fb := hb.frozen 0
  have hba := Ne.symm hab
  have H := Lib.hid (And.intro ha (And.intro hb hab))
  clear ha hb
  go_enter Tryz.func59, Tryz.ntmps59
  go_wp2_with fail
  go_region
  all_goals (go_wp2_with fail)
  first | go_ret | go_end0
  obtain ⟨ha, hb, hab⟩ := H.out
  refine ⟨rfl, Blk.drew ((ha.put 0 _).far (p := ⟨b, 0, none⟩) hab _), Blk.drew ((hb.far (p := ⟨a, 0, none⟩) (Ne.symm hab) _).put 0 _), Fr.drew (Fr.setCell (S := fun k => k = a ∨ k = b) (p := ⟨b, 0, none⟩) (Fr.setCell (S := fun k => k = a ∨ k = b) (p := ⟨a, 0, none⟩) (Fr.refl _ w) (fun _ => Or.inl rfl) _) (fun _ => Or.inr rfl) _)⟩

set_option maxHeartbeats 2000000 in
theorem vup_any (f : Nat) (w : World) : Calls Tryz.prog 51 #[.pointer (some ⟨f, 0, none⟩)] w fun e w' =>
    e = .returned (.func (.func 64) #[] #[.pointer (some ⟨w.heap.size, 0, none⟩)]) ∧ Blk w' w.heap.size 24 #[.pointer (some ⟨f, 0, none⟩)] ∧ Below w.heap.size w w' := by
  go_enter Tryz.func51, Tryz.ntmps51
  go_wp2_with fail
  go_ret
  exact ⟨by simp, Blk.new w _ _, (Below.refl _ _).alloc (Nat.le_refl _) _⟩

set_option maxHeartbeats 4000000 in
theorem vstart_any (f mb : Nat) (mark : Int) (Ms : List Mem) (x : Mem) (w : World) (h : FamAt w f mb mark Ms) (hx : x ∈ Ms) (ok : ∀ y ∈ Ms, 0 ≤ y.v ∧ y.v ≤ 9223372036854775808) :
    Calls Tryz.prog 39 #[.pointer (some ⟨f, 0, none⟩), .pointer (some ⟨x.m, 0, none⟩)] w fun e w' => e = .returned (.int .u64 (startV mark (ups Ms) x.v)) ∧ Below w.heap.size w w' := by
  have UP := Lib.hid (fun w => vup_any f w)
  have H := Lib.hid h
  have HX := Lib.hid hx
  have OK := Lib.hid ok
  clear h hx ok
  refine calls_of_wp_marks Tryz.func39 rfl ?_
  simp only [Tryz.ntmps39, List.size_toArray, List.length_cons, List.length_nil, Nat.reduceAdd, Nat.reduceSub, Array.replicate_succ, Array.replicate_zero, List.push_toArray, List.append_toArray, List.nil_append, List.cons_append]
  go_wp2_with fail
  have bA := ((Blk.new w 28 #[.int .u64 9223372036854775808]).alloc (.cells #[.int .u64 0] 28)).alloc (.cells #[.func (.func 59) #[] #[.pointer (some ⟨w.heap.size, 0, none⟩), .pointer (some ⟨w.heap.size + 1, 0, none⟩)]] 107)
  have bG := (Blk.new (w.alloc (.cells #[.int .u64 9223372036854775808] 28)) 28 #[.int .u64 0]).alloc (.cells #[.func (.func 59) #[] #[.pointer (some ⟨w.heap.size, 0, none⟩), .pointer (some ⟨w.heap.size + 1, 0, none⟩)]] 107)
  have bC := Blk.new ((w.alloc (.cells #[.int .u64 9223372036854775808] 28)).alloc (.cells #[.int .u64 0] 28)) 107 #[.func (.func 59) #[] #[.pointer (some ⟨w.heap.size, 0, none⟩), .pointer (some ⟨w.heap.size + 1, 0, none⟩)]]
  have hB0 : Below w.heap.size w (((w.alloc (.cells #[.int .u64 9223372036854775808] 28)).alloc (.cells #[.int .u64 0] 28)).alloc (.cells #[.func (.func 59) #[] #[.pointer (some ⟨w.heap.size, 0, none⟩), .pointer (some ⟨w.heap.size + 1, 0, none⟩)]] 107)) := by go_grown
  have hsz0 : (((w.alloc (.cells #[.int .u64 9223372036854775808] 28)).alloc (.cells #[.int .u64 0] 28)).alloc (.cells #[.func (.func 59) #[] #[.pointer (some ⟨w.heap.size, 0, none⟩), .pointer (some ⟨w.heap.size + 1, 0, none⟩)]] 107)).heap.size = w.heap.size + 3 := by simp
  simp only [World.size_alloc] at bG bC
  obtain ⟨W0, hW0⟩ : ∃ z, ((w.alloc (.cells #[.int .u64 9223372036854775808] 28)).alloc (.cells #[.int .u64 0] 28)).alloc (.cells #[.func (.func 59) #[] #[.pointer (some ⟨w.heap.size, 0, none⟩), .pointer (some ⟨w.heap.size + 1, 0, none⟩)]] 107) = z := ⟨_, rfl⟩
  rw [hW0] at bA bG bC hB0 hsz0 ⊢
  clear hW0
  with_reducible refine (UP.out W0).mono ?_
  rintro e W1 ⟨rfl, bU, hB1⟩
  rw [hsz0] at bU
  have hs1 : w.heap.size + 4 ≤ W1.heap.size := by have := bU.lt; omega
  have bA1 := bA.next hB1
  have bG1 := bG.next hB1
  have bC1 := bC.next hB1
  have hB2 : Below w.heap.size w W1 := below_next hB0 hB1
  have H1 := Lib.hid (And.intro bA1 (And.intro bG1 (And.intro bC1 (And.intro bU (And.intro hB2 hs1)))))
  have HS1 := Lib.hid hsz0
  clear bA bG bC hB0 hsz0 hB1 bA1 bG1 bC1 bU hB2 hs1
  rw [HS1.out]
  go_wp2_with fail
  refine wp_rangeP (gf := 64) (lb := #[.pointer (some ⟨w.heap.size + 3, 0, none⟩)]) rfl (enters_of Tryz.func64 (by kernel_rfl) rfl) (up_yields f mb mark Ms (w.heap.size + 3)) (fun _ => rfl)
    (fun D W => Blk W w.heap.size 28 #[.int .u64 (lowOf D)] ∧ Blk W (w.heap.size + 1) 28 #[.int .u64 (highOf D)] ∧ Blk W (w.heap.size + 2) 107 #[.func (.func 59) #[] #[.pointer (some ⟨w.heap.size, 0, none⟩), .pointer (some ⟨w.heap.size + 1, 0, none⟩)]] ∧ Blk W (w.heap.size + 3) 24 #[.pointer (some ⟨f, 0, none⟩)] ∧ Below w.heap.size w W ∧ w.heap.size + 4 ≤ W.heap.size)
    (fun _ _ _ => False) ?hI (fun _ _ _ _ h _ => h) (fun k A h => ⟨H.out.next h.2.2.2.2.1, h.2.2.2.1⟩) ?h0 ?hround ?hdone (fun _ _ _ h _ => h.elim)
  case hI =>
    rintro k A C ⟨h1, h2, h3, h4, h5, h6⟩ hs
    exact ⟨h1.stays hs, h2.stays hs, h3.stays hs, h4.stays hs, below_stays h5 hs (by have := H1.out.2.2.2.2.2; omega), Nat.le_trans h6 hs.size⟩
  case h0 => exact H1.out
  case hround =>
    rintro D y W hcm ⟨h1, h2, h3, h4, h5, h6⟩ hlt
    have hyin : y ∈ Ms := by
      obtain ⟨R, hR⟩ := hcm
      exact (List.mem_filter.1 (hR.subset (List.mem_append_right _ (List.mem_cons_self ..)))).1
    unfold encU
    gi_wp2
    refine ⟨⟨Holds.refl hlt, KeepsM.refl _⟩, fun W2 hs => ?_⟩
    have hB5 := below_stays h5 hs (by have := H1.out.2.2.2.2.2; omega)
    have bY := ((H.out.mem y hyin).1.next hB5)
    have HI := Lib.hid (And.intro (h1.stays hs) (And.intro (h2.stays hs) (And.intro (h3.stays hs) (And.intro (h4.stays hs) (And.intro hB5 (And.intro (Nat.le_trans h6 hs.size) (And.intro bY (Nat.lt_of_lt_of_le hlt hs.size))))))))
    clear h1 h2 h3 h4 h5 h6 hs hlt hcm hyin hB5 bY
    have hd : 1 ≤ 5 := by omega
    unfold mptr
    gi_upto_region 5 with (fail)
    refine wpIn_region_ZR [5] (fun W' => (W'.cell? ⟨w.heap.size + 2, 0, none⟩ = some (.func (.func 59) #[] #[.pointer (some ⟨w.heap.size, 0, none⟩), .pointer (some ⟨w.heap.size + 1, 0, none⟩)]) ∧ W'.cell? ⟨y.m, 1, none⟩ = some (.int .u64 y.v)) ∧ Below W2.heap.size W2 W') (by kernel_rfl) ⟨⟨HI.out.2.2.1.get 0 rfl, HI.out.2.2.2.2.2.2.1.get 1 rfl⟩, below_of_drew (Below.refl _ _)⟩ (fun hH => ?_)
    first | (refine wpAnyR_take (i := 0) (v := undef) rfl ?_ ?_ ?_ ?_ ?_ (fun _ _ _ h => h) ?_ ?_ ?_; kernel_rfl; kernel_rfl; kernel_rfl; kernel_rfl; kernel_rfl; exact Or.inr ⟨by rfl, rfl⟩; exact hH) | (refine wpAnyR_take (i := 0) (v := ?_) rfl ?_ ?_ ?_ ?_ ?_ (fun _ _ _ h => h) ?_ ?_ ?_; rotate_left; kernel_rfl; kernel_rfl; kernel_rfl; kernel_rfl; kernel_rfl; (focus (refine Or.inl ⟨by rfl, ?_⟩; intro w' hSw; (try dsimp only at hSw); go_simp)); exact hH) | (refine wpAnyR_take (i := 0) (v := ?_) rfl ?_ ?_ ?_ ?_ ?_ (fun _ _ _ h => h) ?_ ?_ ?_; rotate_left; kernel_rfl; kernel_rfl; kernel_rfl; kernel_rfl; kernel_rfl; (focus (refine Or.inl ⟨by rfl, ?_⟩; intro w' hSw; (try dsimp only at hSw); go_simp; with_reducible rfl)); exact hH)
    try simp only [Act.put, List.getElem_toArray, List.getElem_cons_succ, List.getElem_cons_zero, List.setIfInBounds_toArray, List.set_cons_zero, List.set_cons_succ]
    first | (refine wpAnyR_take (i := 1) (v := undef) rfl ?_ ?_ ?_ ?_ ?_ (fun _ _ _ h => h) ?_ ?_ ?_; kernel_rfl; kernel_rfl; kernel_rfl; kernel_rfl; kernel_rfl; exact Or.inr ⟨by rfl, rfl⟩; exact hH) | (refine wpAnyR_take (i := 1) (v := ?_) rfl ?_ ?_ ?_ ?_ ?_ (fun _ _ _ h => h) ?_ ?_ ?_; rotate_left; kernel_rfl; kernel_rfl; kernel_rfl; kernel_rfl; kernel_rfl; (focus (refine Or.inl ⟨by rfl, ?_⟩; intro w' hSw; (try dsimp only at hSw); go_simp)); exact hH) | (refine wpAnyR_take (i := 1) (v := ?_) rfl ?_ ?_ ?_ ?_ ?_ (fun _ _ _ h => h) ?_ ?_ ?_; rotate_left; kernel_rfl; kernel_rfl; kernel_rfl; kernel_rfl; kernel_rfl; (focus (refine Or.inl ⟨by rfl, ?_⟩; intro w' hSw; (try dsimp only at hSw); go_simp; with_reducible rfl)); exact hH)
    try simp only [Act.put, List.getElem_toArray, List.getElem_cons_succ, List.getElem_cons_zero, List.setIfInBounds_toArray, List.set_cons_zero, List.set_cons_succ]
    first | (refine wpAnyR_take (i := 2) (v := undef) rfl ?_ ?_ ?_ ?_ ?_ (fun _ _ _ h => h) ?_ ?_ ?_; kernel_rfl; kernel_rfl; kernel_rfl; kernel_rfl; kernel_rfl; exact Or.inr ⟨by rfl, rfl⟩; exact hH) | (refine wpAnyR_take (i := 2) (v := ?_) rfl ?_ ?_ ?_ ?_ ?_ (fun _ _ _ h => h) ?_ ?_ ?_; rotate_left; kernel_rfl; kernel_rfl; kernel_rfl; kernel_rfl; kernel_rfl; (focus (refine Or.inl ⟨by rfl, ?_⟩; intro w' hSw; (try dsimp only at hSw); go_simp)); exact hH) | (refine wpAnyR_take (i := 2) (v := ?_) rfl ?_ ?_ ?_ ?_ ?_ (fun _ _ _ h => h) ?_ ?_ ?_; rotate_left; kernel_rfl; kernel_rfl; kernel_rfl; kernel_rfl; kernel_rfl; (focus (refine Or.inl ⟨by rfl, ?_⟩; intro w' hSw; (try dsimp only at hSw); go_simp; with_reducible rfl)); exact hH)
    try simp only [Act.put, List.getElem_toArray, List.getElem_cons_succ, List.getElem_cons_zero, List.setIfInBounds_toArray, List.set_cons_zero, List.set_cons_succ]
    first | (refine wpAnyR_take (i := 3) (v := undef) rfl ?_ ?_ ?_ ?_ ?_ (fun _ _ _ h => h) ?_ ?_ ?_; kernel_rfl; kernel_rfl; kernel_rfl; kernel_rfl; kernel_rfl; exact Or.inr ⟨by rfl, rfl⟩; exact hH) | (refine wpAnyR_take (i := 3) (v := ?_) rfl ?_ ?_ ?_ ?_ ?_ (fun _ _ _ h => h) ?_ ?_ ?_; rotate_left; kernel_rfl; kernel_rfl; kernel_rfl; kernel_rfl; kernel_rfl; (focus (refine Or.inl ⟨by rfl, ?_⟩; intro w' hSw; (try dsimp only at hSw); go_simp)); exact hH) | (refine wpAnyR_take (i := 3) (v := ?_) rfl ?_ ?_ ?_ ?_ ?_ (fun _ _ _ h => h) ?_ ?_ ?_; rotate_left; kernel_rfl; kernel_rfl; kernel_rfl; kernel_rfl; kernel_rfl; (focus (refine Or.inl ⟨by rfl, ?_⟩; intro w' hSw; (try dsimp only at hSw); go_simp; with_reducible rfl)); exact hH)
    try simp only [Act.put, List.getElem_toArray, List.getElem_cons_succ, List.getElem_cons_zero, List.setIfInBounds_toArray, List.set_cons_zero, List.set_cons_succ]
    first | (refine wpAnyR_take (i := 4) (v := undef) rfl ?_ ?_ ?_ ?_ ?_ (fun _ _ _ h => h) ?_ ?_ ?_; kernel_rfl; kernel_rfl; kernel_rfl; kernel_rfl; kernel_rfl; exact Or.inr ⟨by rfl, rfl⟩; exact hH) | (refine wpAnyR_take (i := 4) (v := ?_) rfl ?_ ?_ ?_ ?_ ?_ (fun _ _ _ h => h) ?_ ?_ ?_; rotate_left; kernel_rfl; kernel_rfl; kernel_rfl; kernel_rfl; kernel_rfl; (focus (refine Or.inl ⟨by rfl, ?_⟩; intro w' hSw; (try dsimp only at hSw); go_simp)); exact hH) | (refine wpAnyR_take (i := 4) (v := ?_) rfl ?_ ?_ ?_ ?_ ?_ (fun _ _ _ h => h) ?_ ?_ ?_; rotate_left; kernel_rfl; kernel_rfl; kernel_rfl; kernel_rfl; kernel_rfl; (focus (refine Or.inl ⟨by rfl, ?_⟩; intro w' hSw; (try dsimp only at hSw); go_simp; with_reducible rfl)); exact hH)
    try simp only [Act.put, List.getElem_toArray, List.getElem_cons_succ, List.getElem_cons_zero, List.setIfInBounds_toArray, List.set_cons_zero, List.set_cons_succ]
    refine wpAnyR_one (i := 5) (by kernel_rfl) rfl (by rfl) (fun K hK => ?_)
    refine ⟨fun _ _ => trivial, ?_⟩
    go_simp
    refine (CallsIn.inRound _ (callsIn_wide.2 (vmeets_any w.heap.size (w.heap.size + 1) (lowOf D) (highOf D) y.v W2.drew (Blk.drew HI.out.1) (Blk.drew HI.out.2.1) (by omega)))).mono ?_
    rintro e W3 ⟨rfl, g1, g2, g3⟩
    have HG := Lib.hid (And.intro g1 (And.intro g2 (Fr.trans (Fr.drew (Fr.refl _ W2)) g3)))
    clear g1 g2 g3
    go_simp
    refine hK _ _ (Or.inr ⟨by simp, ?_⟩)
    clear hK K hH
    refine wpAnyR_done (by kernel_rfl) ?_ _
    have h1 := H1.out.2.2.2.2.2
    have hl := HI.out.2.2.2.2.2.2.2
    have F3 := HG.out.2.2
    refine ⟨⟨(Holds.refl hl).fr F3 (by show ¬ (_ ∨ _); omega) (by show ¬ (_ ∨ _); omega), KeepsM.of_fr F3 ?_⟩, ?_, ?_, HI.out.2.2.1.fr F3 (by show ¬ (_ ∨ _); omega), HI.out.2.2.2.1.fr F3 (by show ¬ (_ ∨ _); omega), HI.out.2.2.2.2.1.trans (F3.below (by omega) (fun j hj hn => by omega)), Nat.le_trans HI.out.2.2.2.2.2.1 F3.size⟩
    · rintro k hk (rfl | rfl)
      · exact ⟨_, _, HI.out.1⟩
      · exact ⟨_, _, HI.out.2.1⟩
    · rw [lowOf_snoc]; exact HG.out.1
    · rw [highOf_snoc]; exact HG.out.2.1
  case hdone =>
    rintro D W hperm ⟨h1, h2, h3, h4, h5, h6⟩ hD
    rw [lowOf_perm hperm] at h1
    rw [highOf_perm hperm] at h2
    have hb := low_bounds (D := ups Ms) (fun y hy => OK.out y (List.mem_filter.1 hy).1)
    have hv := OK.out x HX.out
    obtain ⟨lo, elo⟩ : ∃ z, lowOf (ups Ms) = z := ⟨_, rfl⟩
    obtain ⟨hi, ehi⟩ : ∃ z, highOf (ups Ms) = z := ⟨_, rfl⟩
    rw [elo] at h1 hb
    rw [ehi] at h2 hb
    have HE : Hid (startV mark (ups Ms) x.v = if hi < lo then max x.v mark else max x.v (lo + (hi - lo) / 2)) := by unfold Hid startV; rw [elo, ehi]
    have c0 := h1.get 0 rfl
    have c1 := h2.get 0 rfl
    have cm := ((H.out.mem x HX.out).1.next h5).get 1 rfl
    have cf := (H.out.blk.next h5).get 1 rfl
    have HI := Lib.hid (And.intro h5 (And.intro h6 hD))
    clear h1 h2 h3 h4 h5 h6 hD hperm elo ehi
    obtain ⟨hb0, hb1, hb2, hb3⟩ := hb
    by_cases hc : hi < lo
    · have d1 : decide (hi < lo) = true := decide_eq_true hc
      have HC := Lib.hid hc
      clear hc
      go_wp2_with fail
      go_region
      go_wp2_with fail
      refine marks_ret (B := w.heap.size) [W1.heap.size] rfl (by intro D hd; simp only [List.mem_singleton] at hd; subst hd; exact ⟨by have := H1.out.2.2.2.2.2; omega, HI.out.2.2⟩) (by simp) ?_
      intro w' hs
      refine ⟨_, results_tmp rfl _ _ _, ?_, below_stays (below_of_drew HI.out.1) hs (Nat.le_refl _)⟩
      rw [HE.out, if_pos HC.out]
      rfl
    · have d1 : decide (hi < lo) = false := decide_eq_false hc
      have HC := Lib.hid hc
      have e1 : IntKind.u64.wrap (hi - lo) = hi - lo := by rw [IntKind.wrap_u64]; omega
      clear hc
      go_wp2_with fail
      go_region
      go_wp2_with fail
      refine marks_ret (B := w.heap.size) [W1.heap.size] rfl (by intro D hd; simp only [List.mem_singleton] at hd; subst hd; exact ⟨by have := H1.out.2.2.2.2.2; omega, HI.out.2.2⟩) (by simp) ?_
      intro w' hs
      refine ⟨_, results_tmp rfl _ _ _, ?_, below_stays (below_of_drew HI.out.1) hs (Nat.le_refl _)⟩
      have e2 : IntKind.u64.wrap (lo + IntKind.u64.wrap ((hi - lo).tdiv 2)) = lo + (hi - lo) / 2 := by
        have hc := HC.out
        rw [Int.tdiv_eq_ediv_of_nonneg (by omega), IntKind.wrap_u64, IntKind.wrap_u64]
        omega
      rw [HE.out, if_neg (by have := HC.out; omega), ← e2]
      rfl

end Go.Proofs.YtjhffbhjiflfeaaGreat

/-!
  A family: one wakes.
-/
namespace Go.Proofs.YtjhffbhjiflfeaaGreat
set_option linter.unusedVariables false
set_option linter.unusedSimpArgs false
set_option maxRecDepth 100000
open Go.RowKit Go.Shelf

def wokenM (mark : Int) (Ms : List Mem) (x : Mem) : Mem := { x with v := startV mark (ups Ms) x.v, s := x.s.start (startV mark (ups Ms) x.v) x.T, up := true }
def Vok (Ms : List Mem) : Prop := ∀ y ∈ Ms, 0 ≤ y.v ∧ y.v ≤ 9223372036854775808
theorem startV_bounds {mark : Int} {Ms : List Mem} {v : Int} (h : Vok Ms) (hv : 0 ≤ v ∧ v ≤ 9223372036854775808) (hm : 0 ≤ mark ∧ mark ≤ 9223372036854775808) : 0 ≤ startV mark (ups Ms) v ∧ startV mark (ups Ms) v ≤ 9223372036854775808 := by
  have := low_bounds (D := ups Ms) (fun y hy => h y (List.mem_filter.1 hy).1)
  unfold startV
  split <;> omega

set_option maxHeartbeats 4000000 in
theorem vwake_none (f mb : Nat) (mark id : Int) (Ms : List Mem) (w : World) (h : FamAt w f mb mark Ms) (hf : fnd id Ms = none) :
    Calls Tryz.prog 13 #[.pointer (some ⟨f, 0, none⟩), .int .i64 id] w fun e w' => e = .returned (.tuple #[]) ∧ w = w' := by
  have AT := Lib.hid (vat_any f mb mark id Ms w h)
  rw [hf] at AT
  clear h hf
  go_enter Tryz.func13, Tryz.ntmps13
  go_wp2_with fail
  with_reducible refine (AT.out).mono ?_
  rintro e wx ⟨rfl, rfl⟩
  simp only [optP]
  go_wp2_with fail
  refine bodyPost_ret (results_none rfl _ _ _) rfl ?_
  exact ⟨rfl, rfl⟩
set_option maxHeartbeats 4000000 in
theorem vwake_up (f mb : Nat) (mark id : Int) (Ms : List Mem) (x : Mem) (w : World) (h : FamAt w f mb mark Ms) (hf : fnd id Ms = some x) (hu : x.up = true) :
    Calls Tryz.prog 13 #[.pointer (some ⟨f, 0, none⟩), .int .i64 id] w fun e w' => e = .returned (.tuple #[]) ∧ w = w' := by
  have AT := Lib.hid (vat_any f mb mark id Ms w h)
  rw [hf] at AT
  have c3 := (h.mem x (fnd_mem hf).1).1.get 3 rfl
  rw [hu] at c3
  clear h hf hu
  have AT : Hid (Calls Tryz.prog 32 #[.pointer (some ⟨f, 0, none⟩), .int .i64 id] w fun e w' => e = .returned (.pointer (some ⟨x.m, 0, none⟩)) ∧ w = w') := AT
  go_enter Tryz.func13, Tryz.ntmps13
  go_wp2_with fail
  with_reducible refine (AT.out).mono ?_
  rintro e wx ⟨rfl, rfl⟩
  go_wp2_with fail
  refine bodyPost_ret (results_none rfl _ _ _) rfl ?_
  exact ⟨rfl, rfl⟩
set_option maxHeartbeats 4000000 in
theorem vwake_some (f mb : Nat) (mark id : Int) (Ms : List Mem) (x : Mem) (w : World) (h : FamAt w f mb mark Ms) (hf : fnd id Ms = some x) (hu : x.up = false) (hv : Vok Ms) (ok : MemOk x) (hm : 0 ≤ mark ∧ mark ≤ 9223372036854775808) :
    Calls Tryz.prog 13 #[.pointer (some ⟨f, 0, none⟩), .int .i64 id] w fun e w' => e = .returned (.tuple #[]) ∧
      FamAt w' f mb (max mark (startV mark (ups Ms) x.v)) (setM (wokenM mark Ms x) Ms) ∧ Fr (fun k => k = f ∨ k = x.m ∨ k = x.q) w w' := by
  have AT : Hid (Calls Tryz.prog 32 #[.pointer (some ⟨f, 0, none⟩), .int .i64 id] w fun e w' => e = .returned (.pointer (some ⟨x.m, 0, none⟩)) ∧ w = w') := by
    have := vat_any f mb mark id Ms w h
    rw [hf] at this
    exact this
  have hin := (fnd_mem hf).1
  have hid := (fnd_mem hf).2
  subst hid
  have hx := h.mem x hin
  have c3 := hx.1.get 3 rfl
  rw [hu] at c3
  have VS := Lib.hid (vstart_any f mb mark Ms x w h hin hv)
  have hb := startV_bounds hv (hv x hin) hm
  obtain ⟨sv, esv⟩ : ∃ z, startV mark (ups Ms) x.v = z := ⟨_, rfl⟩
  have HW : Hid (wokenM mark Ms x = { x with v := sv, s := x.s.start sv x.T, up := true }) := by unfold Hid wokenM; rw [esv]
  rw [esv] at VS hb ⊢
  have VM := Lib.hid (fun w1 h1 => vmade_any f mb mark sv Ms x w1 h1 hf)
  have H := Lib.hid (And.intro h (And.intro hf (And.intro hx (And.intro ok hb))))
  clear h hf hx hu hv ok hm hb hin esv
  go_enter Tryz.func13, Tryz.ntmps13
  go_wp2_with fail
  with_reducible refine (AT.out).mono ?_
  rintro e wx ⟨rfl, rfl⟩
  go_wp2_with fail
  with_reducible refine (VS.out).mono ?_
  rintro e w1 ⟨rfl, hb1⟩
  have H1 := Lib.hid (And.intro (H.out.1.next hb1) (And.intro (H.out.2.2.1.next hb1) hb1))
  clear hb1 c3
  go_wp2_with fail
  with_reducible refine (VM.out w1 H1.out.1).mono ?_
  rintro e w2 ⟨rfl, g1, g2⟩
  have hF2 : fnd x.id (setM { x with v := sv } Ms) = some { x with v := sv } := fnd_set { x with v := sv } H.out.2.1
  have hx2 := g1.mem _ (fnd_mem hF2).1
  have H2 := Lib.hid (And.intro g1 (And.intro hF2 (And.intro hx2 ((Fr.of_new (S := fun k => k = f ∨ k = x.m) H1.out.2.2).then g2 (fun _ _ h => h)))))
  clear g1 g2 hF2 hx2
  have e2 : Blk w2 x.m 70 #[.int .u64 x.T, .int .u64 sv, .pointer (some ⟨x.p, 0, none⟩), .bool x.up] := H2.out.2.2.1.1
  have r2 : RunAt w2 x.p x.q x.s := H2.out.2.2.1.2
  have HE := Lib.hid (And.intro e2 r2)
  clear e2 r2
  go_upto_region 3 with (fail)
  have KP : Hid (∀ w', Below (w2.heap.size) w2 w' → (w'.cell? ⟨x.m, 2, none⟩ = some (.pointer (some ⟨x.p, 0, none⟩)) ∧ w'.cell? ⟨x.m, 1, none⟩ = some (.int .u64 sv) ∧ w'.cell? ⟨x.m, 0, none⟩ = some (.int .u64 x.T)) ∧ Below (w2.heap.size) w2 w') := fun w' hb => ⟨⟨(HE.out.1.next hb).get 2 rfl, (HE.out.1.next hb).get 1 rfl, (HE.out.1.next hb).get 0 rfl⟩, hb⟩
  have ok := H.out.2.2.2.1
  have wT : Word x.T := ⟨ok.t0, by have := ok.t1; omega⟩
  have wsv : Word sv := ⟨H.out.2.2.2.2.1, by have := H.out.2.2.2.2.2; omega⟩
  have ST := Lib.hid (fun W hW => run_start x.p x.q x.s sv x.T W hW ok.ok ok.many wsv wT)
  clear ok wT wsv
  refine wp_region_noPanic ?_
  refine wp_region_Z [12] (fun w' => (w'.cell? ⟨x.m, 2, none⟩ = some (.pointer (some ⟨x.p, 0, none⟩)) ∧ w'.cell? ⟨x.m, 1, none⟩ = some (.int .u64 sv) ∧ w'.cell? ⟨x.m, 0, none⟩ = some (.int .u64 x.T)) ∧ Below (w2.heap.size) w2 w') (by kernel_rfl) (KP.out _ (below_of_drew ((Below.refl w2.heap.size w2)))) (fun hH => ?_)
  have hbR := below_of_drew ((Below.refl w2.heap.size w2))
  first | (refine wpAnyZ_takeC (i := 0) (v := undef) rfl ?_ ?_ ?_ ?_ (fun _ _ _ h => h) ?_ ?_ ?_; kernel_rfl; kernel_rfl; kernel_rfl; kernel_rfl; exact Or.inr ⟨by rfl, rfl⟩; exact hH) | (refine wpAnyZ_takeC (i := 0) (v := ?_) rfl ?_ ?_ ?_ ?_ (fun _ _ _ h => h) ?_ ?_ ?_; rotate_left; kernel_rfl; kernel_rfl; kernel_rfl; kernel_rfl; (focus (refine Or.inl ⟨by rfl, ?_⟩; intro w' hSw; (try dsimp only at hSw); go_simp)); exact hH) | (refine wpAnyZ_takeC (i := 0) (v := ?_) rfl ?_ ?_ ?_ ?_ (fun _ _ _ h => h) ?_ ?_ ?_; rotate_left; kernel_rfl; kernel_rfl; kernel_rfl; kernel_rfl; (focus (refine Or.inl ⟨by rfl, ?_⟩; intro w' hSw; (try dsimp only at hSw); go_simp; with_reducible rfl)); exact hH)
  try simp only [Act.put, List.getElem_toArray, List.getElem_cons_succ, List.getElem_cons_zero, List.setIfInBounds_toArray, List.set_cons_zero, List.set_cons_succ]
  first | (refine wpAnyZ_takeC (i := 1) (v := undef) rfl ?_ ?_ ?_ ?_ (fun _ _ _ h => h) ?_ ?_ ?_; kernel_rfl; kernel_rfl; kernel_rfl; kernel_rfl; exact Or.inr ⟨by rfl, rfl⟩; exact hH) | (refine wpAnyZ_takeC (i := 1) (v := ?_) rfl ?_ ?_ ?_ ?_ (fun _ _ _ h => h) ?_ ?_ ?_; rotate_left; kernel_rfl; kernel_rfl; kernel_rfl; kernel_rfl; (focus (refine Or.inl ⟨by rfl, ?_⟩; intro w' hSw; (try dsimp only at hSw); go_simp)); exact hH) | (refine wpAnyZ_takeC (i := 1) (v := ?_) rfl ?_ ?_ ?_ ?_ (fun _ _ _ h => h) ?_ ?_ ?_; rotate_left; kernel_rfl; kernel_rfl; kernel_rfl; kernel_rfl; (focus (refine Or.inl ⟨by rfl, ?_⟩; intro w' hSw; (try dsimp only at hSw); go_simp; with_reducible rfl)); exact hH)
  try simp only [Act.put, List.getElem_toArray, List.getElem_cons_succ, List.getElem_cons_zero, List.setIfInBounds_toArray, List.set_cons_zero, List.set_cons_succ]
  first | (refine wpAnyZ_takeC (i := 2) (v := undef) rfl ?_ ?_ ?_ ?_ (fun _ _ _ h => h) ?_ ?_ ?_; kernel_rfl; kernel_rfl; kernel_rfl; kernel_rfl; exact Or.inr ⟨by rfl, rfl⟩; exact hH) | (refine wpAnyZ_takeC (i := 2) (v := ?_) rfl ?_ ?_ ?_ ?_ (fun _ _ _ h => h) ?_ ?_ ?_; rotate_left; kernel_rfl; kernel_rfl; kernel_rfl; kernel_rfl; (focus (refine Or.inl ⟨by rfl, ?_⟩; intro w' hSw; (try dsimp only at hSw); go_simp)); exact hH) | (refine wpAnyZ_takeC (i := 2) (v := ?_) rfl ?_ ?_ ?_ ?_ (fun _ _ _ h => h) ?_ ?_ ?_; rotate_left; kernel_rfl; kernel_rfl; kernel_rfl; kernel_rfl; (focus (refine Or.inl ⟨by rfl, ?_⟩; intro w' hSw; (try dsimp only at hSw); go_simp; with_reducible rfl)); exact hH)
  try simp only [Act.put, List.getElem_toArray, List.getElem_cons_succ, List.getElem_cons_zero, List.setIfInBounds_toArray, List.set_cons_zero, List.set_cons_succ]
  first | (refine wpAnyZ_takeC (i := 3) (v := undef) rfl ?_ ?_ ?_ ?_ (fun _ _ _ h => h) ?_ ?_ ?_; kernel_rfl; kernel_rfl; kernel_rfl; kernel_rfl; exact Or.inr ⟨by rfl, rfl⟩; exact hH) | (refine wpAnyZ_takeC (i := 3) (v := ?_) rfl ?_ ?_ ?_ ?_ (fun _ _ _ h => h) ?_ ?_ ?_; rotate_left; kernel_rfl; kernel_rfl; kernel_rfl; kernel_rfl; (focus (refine Or.inl ⟨by rfl, ?_⟩; intro w' hSw; (try dsimp only at hSw); go_simp)); exact hH) | (refine wpAnyZ_takeC (i := 3) (v := ?_) rfl ?_ ?_ ?_ ?_ (fun _ _ _ h => h) ?_ ?_ ?_; rotate_left; kernel_rfl; kernel_rfl; kernel_rfl; kernel_rfl; (focus (refine Or.inl ⟨by rfl, ?_⟩; intro w' hSw; (try dsimp only at hSw); go_simp; with_reducible rfl)); exact hH)
  try simp only [Act.put, List.getElem_toArray, List.getElem_cons_succ, List.getElem_cons_zero, List.setIfInBounds_toArray, List.set_cons_zero, List.set_cons_succ]
  first | (refine wpAnyZ_takeC (i := 4) (v := undef) rfl ?_ ?_ ?_ ?_ (fun _ _ _ h => h) ?_ ?_ ?_; kernel_rfl; kernel_rfl; kernel_rfl; kernel_rfl; exact Or.inr ⟨by rfl, rfl⟩; exact hH) | (refine wpAnyZ_takeC (i := 4) (v := ?_) rfl ?_ ?_ ?_ ?_ (fun _ _ _ h => h) ?_ ?_ ?_; rotate_left; kernel_rfl; kernel_rfl; kernel_rfl; kernel_rfl; (focus (refine Or.inl ⟨by rfl, ?_⟩; intro w' hSw; (try dsimp only at hSw); go_simp)); exact hH) | (refine wpAnyZ_takeC (i := 4) (v := ?_) rfl ?_ ?_ ?_ ?_ (fun _ _ _ h => h) ?_ ?_ ?_; rotate_left; kernel_rfl; kernel_rfl; kernel_rfl; kernel_rfl; (focus (refine Or.inl ⟨by rfl, ?_⟩; intro w' hSw; (try dsimp only at hSw); go_simp; with_reducible rfl)); exact hH)
  try simp only [Act.put, List.getElem_toArray, List.getElem_cons_succ, List.getElem_cons_zero, List.setIfInBounds_toArray, List.set_cons_zero, List.set_cons_succ]
  first | (refine wpAnyZ_takeC (i := 5) (v := undef) rfl ?_ ?_ ?_ ?_ (fun _ _ _ h => h) ?_ ?_ ?_; kernel_rfl; kernel_rfl; kernel_rfl; kernel_rfl; exact Or.inr ⟨by rfl, rfl⟩; exact hH) | (refine wpAnyZ_takeC (i := 5) (v := ?_) rfl ?_ ?_ ?_ ?_ (fun _ _ _ h => h) ?_ ?_ ?_; rotate_left; kernel_rfl; kernel_rfl; kernel_rfl; kernel_rfl; (focus (refine Or.inl ⟨by rfl, ?_⟩; intro w' hSw; (try dsimp only at hSw); go_simp)); exact hH) | (refine wpAnyZ_takeC (i := 5) (v := ?_) rfl ?_ ?_ ?_ ?_ (fun _ _ _ h => h) ?_ ?_ ?_; rotate_left; kernel_rfl; kernel_rfl; kernel_rfl; kernel_rfl; (focus (refine Or.inl ⟨by rfl, ?_⟩; intro w' hSw; (try dsimp only at hSw); go_simp; with_reducible rfl)); exact hH)
  try simp only [Act.put, List.getElem_toArray, List.getElem_cons_succ, List.getElem_cons_zero, List.setIfInBounds_toArray, List.set_cons_zero, List.set_cons_succ]
  first | (refine wpAnyZ_takeC (i := 6) (v := undef) rfl ?_ ?_ ?_ ?_ (fun _ _ _ h => h) ?_ ?_ ?_; kernel_rfl; kernel_rfl; kernel_rfl; kernel_rfl; exact Or.inr ⟨by rfl, rfl⟩; exact hH) | (refine wpAnyZ_takeC (i := 6) (v := ?_) rfl ?_ ?_ ?_ ?_ (fun _ _ _ h => h) ?_ ?_ ?_; rotate_left; kernel_rfl; kernel_rfl; kernel_rfl; kernel_rfl; (focus (refine Or.inl ⟨by rfl, ?_⟩; intro w' hSw; (try dsimp only at hSw); go_simp)); exact hH) | (refine wpAnyZ_takeC (i := 6) (v := ?_) rfl ?_ ?_ ?_ ?_ (fun _ _ _ h => h) ?_ ?_ ?_; rotate_left; kernel_rfl; kernel_rfl; kernel_rfl; kernel_rfl; (focus (refine Or.inl ⟨by rfl, ?_⟩; intro w' hSw; (try dsimp only at hSw); go_simp; with_reducible rfl)); exact hH)
  try simp only [Act.put, List.getElem_toArray, List.getElem_cons_succ, List.getElem_cons_zero, List.setIfInBounds_toArray, List.set_cons_zero, List.set_cons_succ]
  first | (refine wpAnyZ_takeC (i := 7) (v := undef) rfl ?_ ?_ ?_ ?_ (fun _ _ _ h => h) ?_ ?_ ?_; kernel_rfl; kernel_rfl; kernel_rfl; kernel_rfl; exact Or.inr ⟨by rfl, rfl⟩; exact hH) | (refine wpAnyZ_takeC (i := 7) (v := ?_) rfl ?_ ?_ ?_ ?_ (fun _ _ _ h => h) ?_ ?_ ?_; rotate_left; kernel_rfl; kernel_rfl; kernel_rfl; kernel_rfl; (focus (refine Or.inl ⟨by rfl, ?_⟩; intro w' hSw; (try dsimp only at hSw); go_simp)); exact hH) | (refine wpAnyZ_takeC (i := 7) (v := ?_) rfl ?_ ?_ ?_ ?_ (fun _ _ _ h => h) ?_ ?_ ?_; rotate_left; kernel_rfl; kernel_rfl; kernel_rfl; kernel_rfl; (focus (refine Or.inl ⟨by rfl, ?_⟩; intro w' hSw; (try dsimp only at hSw); go_simp; with_reducible rfl)); exact hH)
  try simp only [Act.put, List.getElem_toArray, List.getElem_cons_succ, List.getElem_cons_zero, List.setIfInBounds_toArray, List.set_cons_zero, List.set_cons_succ]
  first | (refine wpAnyZ_takeC (i := 8) (v := undef) rfl ?_ ?_ ?_ ?_ (fun _ _ _ h => h) ?_ ?_ ?_; kernel_rfl; kernel_rfl; kernel_rfl; kernel_rfl; exact Or.inr ⟨by rfl, rfl⟩; exact hH) | (refine wpAnyZ_takeC (i := 8) (v := ?_) rfl ?_ ?_ ?_ ?_ (fun _ _ _ h => h) ?_ ?_ ?_; rotate_left; kernel_rfl; kernel_rfl; kernel_rfl; kernel_rfl; (focus (refine Or.inl ⟨by rfl, ?_⟩; intro w' hSw; (try dsimp only at hSw); go_simp)); exact hH) | (refine wpAnyZ_takeC (i := 8) (v := ?_) rfl ?_ ?_ ?_ ?_ (fun _ _ _ h => h) ?_ ?_ ?_; rotate_left; kernel_rfl; kernel_rfl; kernel_rfl; kernel_rfl; (focus (refine Or.inl ⟨by rfl, ?_⟩; intro w' hSw; (try dsimp only at hSw); go_simp; with_reducible rfl)); exact hH)
  try simp only [Act.put, List.getElem_toArray, List.getElem_cons_succ, List.getElem_cons_zero, List.setIfInBounds_toArray, List.set_cons_zero, List.set_cons_succ]
  first | (refine wpAnyZ_takeC (i := 9) (v := undef) rfl ?_ ?_ ?_ ?_ (fun _ _ _ h => h) ?_ ?_ ?_; kernel_rfl; kernel_rfl; kernel_rfl; kernel_rfl; exact Or.inr ⟨by rfl, rfl⟩; exact hH) | (refine wpAnyZ_takeC (i := 9) (v := ?_) rfl ?_ ?_ ?_ ?_ (fun _ _ _ h => h) ?_ ?_ ?_; rotate_left; kernel_rfl; kernel_rfl; kernel_rfl; kernel_rfl; (focus (refine Or.inl ⟨by rfl, ?_⟩; intro w' hSw; (try dsimp only at hSw); go_simp)); exact hH) | (refine wpAnyZ_takeC (i := 9) (v := ?_) rfl ?_ ?_ ?_ ?_ (fun _ _ _ h => h) ?_ ?_ ?_; rotate_left; kernel_rfl; kernel_rfl; kernel_rfl; kernel_rfl; (focus (refine Or.inl ⟨by rfl, ?_⟩; intro w' hSw; (try dsimp only at hSw); go_simp; with_reducible rfl)); exact hH)
  try simp only [Act.put, List.getElem_toArray, List.getElem_cons_succ, List.getElem_cons_zero, List.setIfInBounds_toArray, List.set_cons_zero, List.set_cons_succ]
  first | (refine wpAnyZ_takeC (i := 10) (v := undef) rfl ?_ ?_ ?_ ?_ (fun _ _ _ h => h) ?_ ?_ ?_; kernel_rfl; kernel_rfl; kernel_rfl; kernel_rfl; exact Or.inr ⟨by rfl, rfl⟩; exact hH) | (refine wpAnyZ_takeC (i := 10) (v := ?_) rfl ?_ ?_ ?_ ?_ (fun _ _ _ h => h) ?_ ?_ ?_; rotate_left; kernel_rfl; kernel_rfl; kernel_rfl; kernel_rfl; (focus (refine Or.inl ⟨by rfl, ?_⟩; intro w' hSw; (try dsimp only at hSw); go_simp)); exact hH) | (refine wpAnyZ_takeC (i := 10) (v := ?_) rfl ?_ ?_ ?_ ?_ (fun _ _ _ h => h) ?_ ?_ ?_; rotate_left; kernel_rfl; kernel_rfl; kernel_rfl; kernel_rfl; (focus (refine Or.inl ⟨by rfl, ?_⟩; intro w' hSw; (try dsimp only at hSw); go_simp; with_reducible rfl)); exact hH)
  try simp only [Act.put, List.getElem_toArray, List.getElem_cons_succ, List.getElem_cons_zero, List.setIfInBounds_toArray, List.set_cons_zero, List.set_cons_succ]
  first | (refine wpAnyZ_takeC (i := 11) (v := undef) rfl ?_ ?_ ?_ ?_ (fun _ _ _ h => h) ?_ ?_ ?_; kernel_rfl; kernel_rfl; kernel_rfl; kernel_rfl; exact Or.inr ⟨by rfl, rfl⟩; exact hH) | (refine wpAnyZ_takeC (i := 11) (v := ?_) rfl ?_ ?_ ?_ ?_ (fun _ _ _ h => h) ?_ ?_ ?_; rotate_left; kernel_rfl; kernel_rfl; kernel_rfl; kernel_rfl; (focus (refine Or.inl ⟨by rfl, ?_⟩; intro w' hSw; (try dsimp only at hSw); go_simp)); exact hH) | (refine wpAnyZ_takeC (i := 11) (v := ?_) rfl ?_ ?_ ?_ ?_ (fun _ _ _ h => h) ?_ ?_ ?_; rotate_left; kernel_rfl; kernel_rfl; kernel_rfl; kernel_rfl; (focus (refine Or.inl ⟨by rfl, ?_⟩; intro w' hSw; (try dsimp only at hSw); go_simp; with_reducible rfl)); exact hH)
  try simp only [Act.put, List.getElem_toArray, List.getElem_cons_succ, List.getElem_cons_zero, List.setIfInBounds_toArray, List.set_cons_zero, List.set_cons_succ]
  refine wpAnyZ_ready (rs := [12]) (by kernel_rfl) (by simp) ?_
  refine (AllReadyZ.cons rfl (fun K hK => ?_) AllReadyZ.nil)
  go_simp
  with_reducible refine (ST.out _ (HE.out.2.next hbR)).mono ?_
  rintro e w1 ⟨rfl, gr1, gf1⟩
  have HG := Lib.hid (And.intro gr1 (And.intro (Fr.trans (Fr.of_new (S := fun k => k = x.q) hbR) gf1) hbR))
  refine hK.out _ _ (fun h => absurd (by simp) h) ?_
  clear hK K
  try simp only [Act.put, List.getElem_toArray, List.getElem_cons_succ, List.getElem_cons_zero, List.setIfInBounds_toArray, List.set_cons_zero, List.set_cons_succ]
  refine wpAnyZ_done (by kernel_rfl) ?_ _
  refine NoPanic.normal ?_
  skip
  have hmq : x.m ≠ x.q := by
    rcases HE.out.2.parts.2 with ⟨c, hc⟩ | ⟨c, hc⟩
    · exact Blk.ne_of_type HE.out.1 hc (by decide)
    · exact Blk.ne_of_type HE.out.1 hc (by decide)
  have hfq : f ≠ x.q := by
    rcases HE.out.2.parts.2 with ⟨c, hc⟩ | ⟨c, hc⟩
    · exact Blk.ne_of_type H2.out.1.blk hc (by decide)
    · exact Blk.ne_of_type H2.out.1.blk hc (by decide)
  have hfm : f ≠ x.m := Blk.ne_of_type H2.out.1.blk HE.out.1 (by decide)
  have b3 : Blk w1 x.m 70 #[.int .u64 x.T, .int .u64 sv, .pointer (some ⟨x.p, 0, none⟩), .bool x.up] := HE.out.1.fr HG.out.2.1 hmq
  have bf : Blk w1 f 43 #[.map (some mb), .int .u64 (max mark sv)] := H2.out.1.blk.fr HG.out.2.1 hfq
  have c3 := b3.get 3 rfl
  have f3 := b3.frozen 3
  have H3 := Lib.hid (And.intro b3 (And.intro bf (And.intro hmq (And.intro hfq hfm))))
  clear b3 bf hmq hfq hfm
  go_wp2_with fail
  first | go_ret | go_end0
  obtain ⟨b3, bf, hmq, hfq, hfm⟩ := H3.out
  obtain ⟨h0, hf0, hx0, ok0, hb0⟩ := H.out
  obtain ⟨g1, g2, g3, g4⟩ := H2.out
  have F23 : Fr (fun k => k = x.m ∨ k = x.q) w2 (w1.setCell ⟨x.m, 3, none⟩ (.bool true)) := Fr.setCell (S := fun k => k = x.m ∨ k = x.q) (p := ⟨x.m, 3, none⟩) (HG.out.2.1.mono (fun k _ h => Or.inr h)) (fun _ => Or.inl rfl) _
  have FA : Fr (fun k => k = f ∨ k = x.m ∨ k = x.q) w (w1.setCell ⟨x.m, 3, none⟩ (.bool true)) := (g4.mono (fun k _ h => h.imp id Or.inl)).trans (F23.mono (fun k _ h => Or.inr h))
  refine ⟨rfl, ?_, FA⟩
  rw [HW.out]
  refine FamAt.set (x := x) (y := { x with v := sv, s := x.s.start sv x.T, up := true }) h0 hf0 rfl rfl ⟨b3.put 3 _, ?_⟩ (bf.far (p := ⟨x.m, 3, none⟩) hfm _) FA
  have hs3 : Fr (fun k => k = x.m) w1 (w1.setCell ⟨x.m, 3, none⟩ (.bool true)) := Fr.setCell (S := fun k => k = x.m) (p := ⟨x.m, 3, none⟩) (Fr.refl _ w1) (fun _ => rfl) _
  refine HG.out.1.fr hs3 ?_ ?_ ?_
  · obtain ⟨c, hc⟩ := HG.out.1.parts.1
    exact Blk.ne_of_type hc b3 (by decide)
  · exact Ne.symm hmq
  · intro b cs hc
    exact Blk.ne_of_type hc b3 (by decide)

end Go.Proofs.YtjhffbhjiflfeaaGreat
