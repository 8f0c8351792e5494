/-
  The document's row of chapter 8: what is dropped; the least value, the first that is found.
-/
import Derived.Test.YtjlnbpomncglcaaProg
import Derived.Test.YtjlnbpomncglcaaRBRef
import Derived.Test.YtjlnbpomncglcaaRBUX
namespace Go.Proofs.Ytjlnbpomncglcaa
set_option linter.unusedVariables false
set_option linter.unusedSimpArgs false
set_option maxRecDepth 100000
open Go.RowKit

theorem k_less (a1 a2 b1 b2 : Int) (w : World) : Calls Try.prog 65 #[.agg #[.int .u64 a1, .int .i64 a2], .agg #[.int .u64 b1, .int .i64 b2]] w fun e w' => e = .returned (.bool (klt (a1, a2) (b1, b2))) ∧ Below w.heap.size w w' := by
  by_cases h : a1 = b1
  · subst h
    have e1 : klt (a1, a2) (a1, b2) = decide (a2 < b2) := by simp [klt]
    rw [e1]
    clear e1
    go_enter Try.func65, Try.ntmps65
    go_wp2
    go_ret
    exact ⟨by simp, by go_grown⟩
  · have e1 : klt (a1, a2) (b1, b2) = decide (a1 < b1) := by simp [klt, h]
    rw [e1]
    clear e1
    have h5 : (a1 == b1) = false := beq_eq_false_iff_ne.2 h
    clear h
    go_enter Try.func65, Try.ntmps65
    go_wp2
    go_ret
    exact ⟨by simp, by go_grown⟩
def kdelE (k : RK) (L : Row) : Int := if get k L = none then 81 else 0
set_option maxHeartbeats 4000000 in
theorem k_drop (r B : Nat) (v : Value) (L : Row) (k : RK) (w : World) (h : KRow w r B v L) (hB : B ≤ w.heap.size) (hR : Rises L) (hf : L.length ≤ 65535) :
    Calls Try.prog 18 #[.pointer (some ⟨r, 0, none⟩), .agg #[.int .u64 k.1, .int .i64 k.2]] w fun e w' => ∃ v', e = .returned (.int .i64 (kdelE k L)) ∧ KRow w' r B v' (del k L) ∧ Fr (fun j => j = r) w w' ∧ ∀ j, v'.ownBlock = some j → v.ownBlock = some j ∨ w.heap.size ≤ j := by
  have HL := Lib.hid (And.intro hR hf)
  have HBB := Lib.hid hB
  have H := Lib.hid h
  clear h hR hf hB
  go_enter Try.func18, Try.ntmps18
  go_upto_region 1 with (fail)
  have hb0 : Below w.heap.size w (w.alloc (.cells #[.int .u64 k.1, .int .i64 k.2] 31)) := by go_grown
  have kb := Blk.new w 31 #[.int .u64 k.1, .int .i64 k.2]
  generalize w.alloc (.cells #[.int .u64 k.1, .int .i64 k.2] 31) = w0 at hb0 kb ⊢
  have H0 := Lib.hid (And.intro hb0 (H.out.next hb0))
  have x0 := kb.get 0 rfl
  have x1 := kb.get 1 rfl
  clear hb0 kb
  go_wp2_with fail
  with_reducible refine (k_at r B v L k w0 H0.out.2 HL.out.1 HL.out.2).mono ?_
  rintro e w1 ⟨hb1, q, rfl, hk⟩
  rcases hk with ⟨hn, rfl⟩ | ⟨i, x, rfl, hq, hx⟩
  · have HB := Lib.hid (And.intro (below_next H0.out.1 hb1) hn)
    clear hb1 hn x0 x1
    go_wp2
    go_ret
    refine ⟨v, by rw [kdelE, if_pos HB.out.2]; simp, ?_, Fr.of_new HB.out.1, fun k hk => Or.inl hk⟩
    rw [show del k L = L from del_none (get_none.1 HB.out.2)]
    exact H.out.next HB.out.1
  · have H1 := Lib.hid (H0.out.2.next hb1)
    obtain ⟨A, c, rfl, hlc, -⟩ := H.out.form
    have hi := (List.getElem?_eq_some_iff.1 hq).1
    have HX := Lib.hid (And.intro (below_next H0.out.1 hb1) (And.intro hq (And.intro hx hi)))
    obtain ⟨n, hn⟩ : ∃ n, L.length = n := ⟨_, rfl⟩
    have HN := Lib.hid hn
    have hfew := HL.out.2
    rw [hn] at hi hfew hlc H1
    obtain ⟨i0, hi0⟩ := krow_info
    have hown : w1.drew.ownsRow B 51 3 (.slice A n c) n (flatK L) := by
      have := own_next H1.out.own (below_of_drew (Below.refl w1.heap.size w1))
      rw [hn] at this
      exact this
    obtain ⟨v1, wA, v2, wB, r1, bA, r2, bB, oB⟩ := hi0.less 27 hown (show i < n from hi) (flatK_one L) (by omega)
    obtain ⟨A2, c2, rfl⟩ := own_slice oB
    have HR1 := Lib.hid r1
    have HR2 := Lib.hid r2
    have HO := Lib.hid (And.intro bA (And.intro bB oB))
    clear r1 r2 bA bB oB hown hi0 x0 x1
    have HSZ := Lib.hid (show w1.drew.heap.size = w1.heap.size from rfl)
    have p0 : (0 : Int) ≤ (i : Int) := by omega
    have p1 : (i : Int) < (n : Int) := by omega
    have p2 : (i : Int) ≤ (n : Int) := by omega
    have p3 : (i : Int) + 1 ≤ (n : Int) := by omega
    have p4 : (n : Int) ≤ (c : Int) := by omega
    have p5 : (i : Int) ≤ (c : Int) := by omega
    have d1 : decide ((i : Int) < 0) = false := decide_eq_false (by omega)
    have e5 : IntKind.i64.wrap ((i : Int) + 1) = ((i + 1 : Nat) : Int) := by rw [IntKind.wrap_i64]; omega
    have p6 : (0 : Int) ≤ (i : Int) + 1 := by omega
    have p7 : ((i + 1 : Nat) : Int) ≤ (n : Int) := by omega
    have KR : Hid (∀ w', Below (w1.heap.size) w1 w' → (w'.cell? ⟨r, 0, none⟩ = some (.slice A n c)) ∧ Below (w1.heap.size) w1 w') := fun w' hb => ⟨((H1.out.head.next hb).get 0 rfl), hb⟩
    clear hb1 hq hx hn
    obtain ⟨A', hA'⟩ : ∃ z, (if c = i + 1 then A else A.map (·.add ((i + 1) * 3))) = z := ⟨_, rfl⟩
    rw [hA'] at HR2
    have HA' := Lib.hid hA'
    have hbB : Below w1.heap.size w1 wB := (below_of_drew (Below.refl w1.heap.size w1)).trans HO.out.2.1
    have HBB2 := Lib.hid hbB
    have bRB := H1.out.head.next hbB
    have cB := bRB.get 0 rfl
    have fB := bRB.frozen 0
    have HRB := Lib.hid bRB
    clear hbB bRB
    go_wp2_with fail
    refine wp_region_noPanic ?_
    refine wp_region_Z [19] (fun w' => (w'.cell? ⟨r, 0, none⟩ = some (.slice A n c)) ∧ Below (w1.heap.size) w1 w') (by kernel_rfl) (KR.out _ (below_of_drew (Below.refl w1.heap.size w1))) (fun hH => ?_)
    have hbR := below_of_drew (Below.refl w1.heap.size w1)
    first | (refine wpAnyZ_take (i := 0) (v := undef) rfl ?_ ?_ ?_ ?_ (fun _ _ _ h => h) ?_ ?_ ?_; kernel_rfl; kernel_rfl; kernel_rfl; kernel_rfl; exact Or.inr ⟨by rfl, rfl⟩; exact hH) | (refine wpAnyZ_take (i := 0) (v := ?_) rfl ?_ ?_ ?_ ?_ (fun _ _ _ h => h) ?_ ?_ ?_; rotate_left; kernel_rfl; kernel_rfl; kernel_rfl; kernel_rfl; (focus (refine Or.inl ⟨by rfl, ?_⟩; intro w' hSw; (try dsimp only at hSw); go_simp)); exact hH) | (refine wpAnyZ_take (i := 0) (v := ?_) rfl ?_ ?_ ?_ ?_ (fun _ _ _ h => h) ?_ ?_ ?_; rotate_left; kernel_rfl; kernel_rfl; kernel_rfl; kernel_rfl; (focus (refine Or.inl ⟨by rfl, ?_⟩; intro w' hSw; (try dsimp only at hSw); go_simp; with_reducible rfl)); exact hH)
    try simp only [Act.put, List.getElem_toArray, List.getElem_cons_succ, List.getElem_cons_zero, List.setIfInBounds_toArray, List.set_cons_zero, List.set_cons_succ]
    first | (refine wpAnyZ_take (i := 2) (v := undef) rfl ?_ ?_ ?_ ?_ (fun _ _ _ h => h) ?_ ?_ ?_; kernel_rfl; kernel_rfl; kernel_rfl; kernel_rfl; exact Or.inr ⟨by rfl, rfl⟩; exact hH) | (refine wpAnyZ_take (i := 2) (v := ?_) rfl ?_ ?_ ?_ ?_ (fun _ _ _ h => h) ?_ ?_ ?_; rotate_left; kernel_rfl; kernel_rfl; kernel_rfl; kernel_rfl; (focus (refine Or.inl ⟨by rfl, ?_⟩; intro w' hSw; (try dsimp only at hSw); go_simp)); exact hH) | (refine wpAnyZ_take (i := 2) (v := ?_) rfl ?_ ?_ ?_ ?_ (fun _ _ _ h => h) ?_ ?_ ?_; rotate_left; kernel_rfl; kernel_rfl; kernel_rfl; kernel_rfl; (focus (refine Or.inl ⟨by rfl, ?_⟩; intro w' hSw; (try dsimp only at hSw); go_simp; with_reducible rfl)); exact hH)
    try simp only [Act.put, List.getElem_toArray, List.getElem_cons_succ, List.getElem_cons_zero, List.setIfInBounds_toArray, List.set_cons_zero, List.set_cons_succ]
    first | (refine wpAnyZ_take (i := 3) (v := undef) rfl ?_ ?_ ?_ ?_ (fun _ _ _ h => h) ?_ ?_ ?_; kernel_rfl; kernel_rfl; kernel_rfl; kernel_rfl; exact Or.inr ⟨by rfl, rfl⟩; exact hH) | (refine wpAnyZ_take (i := 3) (v := ?_) rfl ?_ ?_ ?_ ?_ (fun _ _ _ h => h) ?_ ?_ ?_; rotate_left; kernel_rfl; kernel_rfl; kernel_rfl; kernel_rfl; (focus (refine Or.inl ⟨by rfl, ?_⟩; intro w' hSw; (try dsimp only at hSw); go_simp)); exact hH) | (refine wpAnyZ_take (i := 3) (v := ?_) rfl ?_ ?_ ?_ ?_ (fun _ _ _ h => h) ?_ ?_ ?_; rotate_left; kernel_rfl; kernel_rfl; kernel_rfl; kernel_rfl; (focus (refine Or.inl ⟨by rfl, ?_⟩; intro w' hSw; (try dsimp only at hSw); go_simp; with_reducible rfl)); exact hH)
    try simp only [Act.put, List.getElem_toArray, List.getElem_cons_succ, List.getElem_cons_zero, List.setIfInBounds_toArray, List.set_cons_zero, List.set_cons_succ]
    first | (refine wpAnyZ_take (i := 4) (v := undef) rfl ?_ ?_ ?_ ?_ (fun _ _ _ h => h) ?_ ?_ ?_; kernel_rfl; kernel_rfl; kernel_rfl; kernel_rfl; exact Or.inr ⟨by rfl, rfl⟩; exact hH) | (refine wpAnyZ_take (i := 4) (v := ?_) rfl ?_ ?_ ?_ ?_ (fun _ _ _ h => h) ?_ ?_ ?_; rotate_left; kernel_rfl; kernel_rfl; kernel_rfl; kernel_rfl; (focus (refine Or.inl ⟨by rfl, ?_⟩; intro w' hSw; (try dsimp only at hSw); go_simp)); exact hH) | (refine wpAnyZ_take (i := 4) (v := ?_) rfl ?_ ?_ ?_ ?_ (fun _ _ _ h => h) ?_ ?_ ?_; rotate_left; kernel_rfl; kernel_rfl; kernel_rfl; kernel_rfl; (focus (refine Or.inl ⟨by rfl, ?_⟩; intro w' hSw; (try dsimp only at hSw); go_simp; with_reducible rfl)); exact hH)
    try simp only [Act.put, List.getElem_toArray, List.getElem_cons_succ, List.getElem_cons_zero, List.setIfInBounds_toArray, List.set_cons_zero, List.set_cons_succ]
    first | (refine wpAnyZ_take (i := 5) (v := undef) rfl ?_ ?_ ?_ ?_ (fun _ _ _ h => h) ?_ ?_ ?_; kernel_rfl; kernel_rfl; kernel_rfl; kernel_rfl; exact Or.inr ⟨by rfl, rfl⟩; exact hH) | (refine wpAnyZ_take (i := 5) (v := ?_) rfl ?_ ?_ ?_ ?_ (fun _ _ _ h => h) ?_ ?_ ?_; rotate_left; kernel_rfl; kernel_rfl; kernel_rfl; kernel_rfl; (focus (refine Or.inl ⟨by rfl, ?_⟩; intro w' hSw; (try dsimp only at hSw); go_simp)); exact hH) | (refine wpAnyZ_take (i := 5) (v := ?_) rfl ?_ ?_ ?_ ?_ (fun _ _ _ h => h) ?_ ?_ ?_; rotate_left; kernel_rfl; kernel_rfl; kernel_rfl; kernel_rfl; (focus (refine Or.inl ⟨by rfl, ?_⟩; intro w' hSw; (try dsimp only at hSw); go_simp; with_reducible rfl)); exact hH)
    try simp only [Act.put, List.getElem_toArray, List.getElem_cons_succ, List.getElem_cons_zero, List.setIfInBounds_toArray, List.set_cons_zero, List.set_cons_succ]
    first | (refine wpAnyZ_take (i := 6) (v := undef) rfl ?_ ?_ ?_ ?_ (fun _ _ _ h => h) ?_ ?_ ?_; kernel_rfl; kernel_rfl; kernel_rfl; kernel_rfl; exact Or.inr ⟨by rfl, rfl⟩; exact hH) | (refine wpAnyZ_take (i := 6) (v := ?_) rfl ?_ ?_ ?_ ?_ (fun _ _ _ h => h) ?_ ?_ ?_; rotate_left; kernel_rfl; kernel_rfl; kernel_rfl; kernel_rfl; (focus (refine Or.inl ⟨by rfl, ?_⟩; intro w' hSw; (try dsimp only at hSw); go_simp)); exact hH) | (refine wpAnyZ_take (i := 6) (v := ?_) rfl ?_ ?_ ?_ ?_ (fun _ _ _ h => h) ?_ ?_ ?_; rotate_left; kernel_rfl; kernel_rfl; kernel_rfl; kernel_rfl; (focus (refine Or.inl ⟨by rfl, ?_⟩; intro w' hSw; (try dsimp only at hSw); go_simp; with_reducible rfl)); exact hH)
    try simp only [Act.put, List.getElem_toArray, List.getElem_cons_succ, List.getElem_cons_zero, List.setIfInBounds_toArray, List.set_cons_zero, List.set_cons_succ]
    first | (refine wpAnyZ_take (i := 7) (v := undef) rfl ?_ ?_ ?_ ?_ (fun _ _ _ h => h) ?_ ?_ ?_; kernel_rfl; kernel_rfl; kernel_rfl; kernel_rfl; exact Or.inr ⟨by rfl, rfl⟩; exact hH) | (refine wpAnyZ_take (i := 7) (v := ?_) rfl ?_ ?_ ?_ ?_ (fun _ _ _ h => h) ?_ ?_ ?_; rotate_left; kernel_rfl; kernel_rfl; kernel_rfl; kernel_rfl; (focus (refine Or.inl ⟨by rfl, ?_⟩; intro w' hSw; (try dsimp only at hSw); go_simp)); exact hH) | (refine wpAnyZ_take (i := 7) (v := ?_) rfl ?_ ?_ ?_ ?_ (fun _ _ _ h => h) ?_ ?_ ?_; rotate_left; kernel_rfl; kernel_rfl; kernel_rfl; kernel_rfl; (focus (refine Or.inl ⟨by rfl, ?_⟩; intro w' hSw; (try dsimp only at hSw); go_simp; with_reducible rfl)); exact hH)
    try simp only [Act.put, List.getElem_toArray, List.getElem_cons_succ, List.getElem_cons_zero, List.setIfInBounds_toArray, List.set_cons_zero, List.set_cons_succ]
    first | (refine wpAnyZ_take (i := 9) (v := undef) rfl ?_ ?_ ?_ ?_ (fun _ _ _ h => h) ?_ ?_ ?_; kernel_rfl; kernel_rfl; kernel_rfl; kernel_rfl; exact Or.inr ⟨by rfl, rfl⟩; exact hH) | (refine wpAnyZ_take (i := 9) (v := ?_) rfl ?_ ?_ ?_ ?_ (fun _ _ _ h => h) ?_ ?_ ?_; rotate_left; kernel_rfl; kernel_rfl; kernel_rfl; kernel_rfl; (focus (refine Or.inl ⟨by rfl, ?_⟩; intro w' hSw; (try dsimp only at hSw); go_simp)); exact hH) | (refine wpAnyZ_take (i := 9) (v := ?_) rfl ?_ ?_ ?_ ?_ (fun _ _ _ h => h) ?_ ?_ ?_; rotate_left; kernel_rfl; kernel_rfl; kernel_rfl; kernel_rfl; (focus (refine Or.inl ⟨by rfl, ?_⟩; intro w' hSw; (try dsimp only at hSw); go_simp; with_reducible rfl)); exact hH)
    try simp only [Act.put, List.getElem_toArray, List.getElem_cons_succ, List.getElem_cons_zero, List.setIfInBounds_toArray, List.set_cons_zero, List.set_cons_succ]
    first | (refine wpAnyZ_take (i := 10) (v := undef) rfl ?_ ?_ ?_ ?_ (fun _ _ _ h => h) ?_ ?_ ?_; kernel_rfl; kernel_rfl; kernel_rfl; kernel_rfl; exact Or.inr ⟨by rfl, rfl⟩; exact hH) | (refine wpAnyZ_take (i := 10) (v := ?_) rfl ?_ ?_ ?_ ?_ (fun _ _ _ h => h) ?_ ?_ ?_; rotate_left; kernel_rfl; kernel_rfl; kernel_rfl; kernel_rfl; (focus (refine Or.inl ⟨by rfl, ?_⟩; intro w' hSw; (try dsimp only at hSw); go_simp)); exact hH) | (refine wpAnyZ_take (i := 10) (v := ?_) rfl ?_ ?_ ?_ ?_ (fun _ _ _ h => h) ?_ ?_ ?_; rotate_left; kernel_rfl; kernel_rfl; kernel_rfl; kernel_rfl; (focus (refine Or.inl ⟨by rfl, ?_⟩; intro w' hSw; (try dsimp only at hSw); go_simp; with_reducible rfl)); exact hH)
    try simp only [Act.put, List.getElem_toArray, List.getElem_cons_succ, List.getElem_cons_zero, List.setIfInBounds_toArray, List.set_cons_zero, List.set_cons_succ]
    first | (refine wpAnyZ_take (i := 11) (v := undef) rfl ?_ ?_ ?_ ?_ (fun _ _ _ h => h) ?_ ?_ ?_; kernel_rfl; kernel_rfl; kernel_rfl; kernel_rfl; exact Or.inr ⟨by rfl, rfl⟩; exact hH) | (refine wpAnyZ_take (i := 11) (v := ?_) rfl ?_ ?_ ?_ ?_ (fun _ _ _ h => h) ?_ ?_ ?_; rotate_left; kernel_rfl; kernel_rfl; kernel_rfl; kernel_rfl; (focus (refine Or.inl ⟨by rfl, ?_⟩; intro w' hSw; (try dsimp only at hSw); go_simp)); exact hH) | (refine wpAnyZ_take (i := 11) (v := ?_) rfl ?_ ?_ ?_ ?_ (fun _ _ _ h => h) ?_ ?_ ?_; rotate_left; kernel_rfl; kernel_rfl; kernel_rfl; kernel_rfl; (focus (refine Or.inl ⟨by rfl, ?_⟩; intro w' hSw; (try dsimp only at hSw); go_simp; with_reducible rfl)); exact hH)
    try simp only [Act.put, List.getElem_toArray, List.getElem_cons_succ, List.getElem_cons_zero, List.setIfInBounds_toArray, List.set_cons_zero, List.set_cons_succ]
    first | (refine wpAnyZ_take (i := 12) (v := undef) rfl ?_ ?_ ?_ ?_ (fun _ _ _ h => h) ?_ ?_ ?_; kernel_rfl; kernel_rfl; kernel_rfl; kernel_rfl; exact Or.inr ⟨by rfl, rfl⟩; exact hH) | (refine wpAnyZ_take (i := 12) (v := ?_) rfl ?_ ?_ ?_ ?_ (fun _ _ _ h => h) ?_ ?_ ?_; rotate_left; kernel_rfl; kernel_rfl; kernel_rfl; kernel_rfl; (focus (refine Or.inl ⟨by rfl, ?_⟩; intro w' hSw; (try dsimp only at hSw); go_simp)); exact hH) | (refine wpAnyZ_take (i := 12) (v := ?_) rfl ?_ ?_ ?_ ?_ (fun _ _ _ h => h) ?_ ?_ ?_; rotate_left; kernel_rfl; kernel_rfl; kernel_rfl; kernel_rfl; (focus (refine Or.inl ⟨by rfl, ?_⟩; intro w' hSw; (try dsimp only at hSw); go_simp; with_reducible rfl)); exact hH)
    try simp only [Act.put, List.getElem_toArray, List.getElem_cons_succ, List.getElem_cons_zero, List.setIfInBounds_toArray, List.set_cons_zero, List.set_cons_succ]
    first | (refine wpAnyZ_take (i := 13) (v := undef) rfl ?_ ?_ ?_ ?_ (fun _ _ _ h => h) ?_ ?_ ?_; kernel_rfl; kernel_rfl; kernel_rfl; kernel_rfl; exact Or.inr ⟨by rfl, rfl⟩; exact hH) | (refine wpAnyZ_take (i := 13) (v := ?_) rfl ?_ ?_ ?_ ?_ (fun _ _ _ h => h) ?_ ?_ ?_; rotate_left; kernel_rfl; kernel_rfl; kernel_rfl; kernel_rfl; (focus (refine Or.inl ⟨by rfl, ?_⟩; intro w' hSw; (try dsimp only at hSw); go_simp)); exact hH) | (refine wpAnyZ_take (i := 13) (v := ?_) rfl ?_ ?_ ?_ ?_ (fun _ _ _ h => h) ?_ ?_ ?_; rotate_left; kernel_rfl; kernel_rfl; kernel_rfl; kernel_rfl; (focus (refine Or.inl ⟨by rfl, ?_⟩; intro w' hSw; (try dsimp only at hSw); go_simp; with_reducible rfl)); exact hH)
    try simp only [Act.put, List.getElem_toArray, List.getElem_cons_succ, List.getElem_cons_zero, List.setIfInBounds_toArray, List.set_cons_zero, List.set_cons_succ]
    first | (refine wpAnyZ_take (i := 14) (v := undef) rfl ?_ ?_ ?_ ?_ (fun _ _ _ h => h) ?_ ?_ ?_; kernel_rfl; kernel_rfl; kernel_rfl; kernel_rfl; exact Or.inr ⟨by rfl, rfl⟩; exact hH) | (refine wpAnyZ_take (i := 14) (v := ?_) rfl ?_ ?_ ?_ ?_ (fun _ _ _ h => h) ?_ ?_ ?_; rotate_left; kernel_rfl; kernel_rfl; kernel_rfl; kernel_rfl; (focus (refine Or.inl ⟨by rfl, ?_⟩; intro w' hSw; (try dsimp only at hSw); go_simp)); exact hH) | (refine wpAnyZ_take (i := 14) (v := ?_) rfl ?_ ?_ ?_ ?_ (fun _ _ _ h => h) ?_ ?_ ?_; rotate_left; kernel_rfl; kernel_rfl; kernel_rfl; kernel_rfl; (focus (refine Or.inl ⟨by rfl, ?_⟩; intro w' hSw; (try dsimp only at hSw); go_simp; with_reducible rfl)); exact hH)
    try simp only [Act.put, List.getElem_toArray, List.getElem_cons_succ, List.getElem_cons_zero, List.setIfInBounds_toArray, List.set_cons_zero, List.set_cons_succ]
    first | (refine wpAnyZ_take (i := 15) (v := undef) rfl ?_ ?_ ?_ ?_ (fun _ _ _ h => h) ?_ ?_ ?_; kernel_rfl; kernel_rfl; kernel_rfl; kernel_rfl; exact Or.inr ⟨by rfl, rfl⟩; exact hH) | (refine wpAnyZ_take (i := 15) (v := ?_) rfl ?_ ?_ ?_ ?_ (fun _ _ _ h => h) ?_ ?_ ?_; rotate_left; kernel_rfl; kernel_rfl; kernel_rfl; kernel_rfl; (focus (refine Or.inl ⟨by rfl, ?_⟩; intro w' hSw; (try dsimp only at hSw); go_simp)); exact hH) | (refine wpAnyZ_take (i := 15) (v := ?_) rfl ?_ ?_ ?_ ?_ (fun _ _ _ h => h) ?_ ?_ ?_; rotate_left; kernel_rfl; kernel_rfl; kernel_rfl; kernel_rfl; (focus (refine Or.inl ⟨by rfl, ?_⟩; intro w' hSw; (try dsimp only at hSw); go_simp; with_reducible rfl)); exact hH)
    try simp only [Act.put, List.getElem_toArray, List.getElem_cons_succ, List.getElem_cons_zero, List.setIfInBounds_toArray, List.set_cons_zero, List.set_cons_succ]
    refine wpAnyZ_ready (rs := [1]) (by kernel_rfl) (by simp) ?_
    refine (AllReadyZ.cons rfl (fun K hK => ?_) AllReadyZ.nil)
    go_simp
    have E0b1 : Blk (w1.drew.alloc (.cells #[] 51)) (w1.heap.size) 51 #[] := Blk.new_at (by simp)
    have QGE0 : w1.heap.size ≤ w1.heap.size := Nat.le_trans (Below.size (hbR)) (Nat.le_of_eq (by simp))
    have hb1 := Below.alloc (hbR) (Below.size (hbR)) (.cells #[] 51)
    have hH1 := KR.out _ hb1
    refine hK.out _ _ (fun _ => hH1) ?_
    clear hK K hH
    have hH := hH1
    clear hH1
    try simp only [Act.put, List.getElem_toArray, List.getElem_cons_succ, List.getElem_cons_zero, List.setIfInBounds_toArray, List.set_cons_zero, List.set_cons_succ]
    refine wpAnyZ_ready (rs := [8]) (by kernel_rfl) (by simp) ?_
    refine (AllReadyZ.cons rfl (fun K hK => ?_) AllReadyZ.nil)
    refine want_yes (by rfl) ?_
    refine wp_append_known _ _ 27 rfl _ _ _ (by rfl) (by rfl) HR1.out ?_
    have hH2 := KR.out _ ((below_of_drew (Below.refl w1.heap.size w1)).trans HO.out.1)
    refine hK.out _ _ (fun _ => hH2) ?_
    clear hK K hH
    have hH := hH2
    clear hH2
    try simp only [Act.put, List.getElem_toArray, List.getElem_cons_succ, List.getElem_cons_zero, List.setIfInBounds_toArray, List.set_cons_zero, List.set_cons_succ]
    refine wpAnyZ_ready (rs := [16]) (by kernel_rfl) (by simp) ?_
    refine (AllReadyZ.cons rfl (fun K hK => ?_) AllReadyZ.nil)
    refine want_yes (by rfl) ?_
    refine wp_append_known _ _ 27 rfl _ _ _ (by rfl) (by rfl) HR2.out ?_
    have hH3 := KR.out _ HBB2.out
    refine hK.out _ _ (fun _ => hH3) ?_
    clear hK K hH
    have hH := hH3
    clear hH3
    try simp only [Act.put, List.getElem_toArray, List.getElem_cons_succ, List.getElem_cons_zero, List.setIfInBounds_toArray, List.set_cons_zero, List.set_cons_succ]
    refine wpAnyZ_ready (rs := [17]) (by kernel_rfl) (by simp) ?_
    refine (AllReadyZ.cons rfl (fun K hK => ?_) AllReadyZ.nil)
    go_simp
    refine hK.out _ _ (fun _ => hH) ?_
    clear hK K
    try simp only [Act.put, List.getElem_toArray, List.getElem_cons_succ, List.getElem_cons_zero, List.setIfInBounds_toArray, List.set_cons_zero, List.set_cons_succ]
    first | (refine wpAnyZ_take (i := 18) (v := undef) rfl ?_ ?_ ?_ ?_ (fun _ _ _ h => h) ?_ ?_ ?_; kernel_rfl; kernel_rfl; kernel_rfl; kernel_rfl; exact Or.inr ⟨by rfl, rfl⟩; exact hH) | (refine wpAnyZ_take (i := 18) (v := ?_) rfl ?_ ?_ ?_ ?_ (fun _ _ _ h => h) ?_ ?_ ?_; rotate_left; kernel_rfl; kernel_rfl; kernel_rfl; kernel_rfl; (focus (refine Or.inl ⟨by rfl, ?_⟩; intro w' hSw; (try dsimp only at hSw); go_simp)); exact hH) | (refine wpAnyZ_take (i := 18) (v := ?_) rfl ?_ ?_ ?_ ?_ (fun _ _ _ h => h) ?_ ?_ ?_; rotate_left; kernel_rfl; kernel_rfl; kernel_rfl; kernel_rfl; (focus (refine Or.inl ⟨by rfl, ?_⟩; intro w' hSw; (try dsimp only at hSw); go_simp; with_reducible rfl)); exact hH)
    try simp only [Act.put, List.getElem_toArray, List.getElem_cons_succ, List.getElem_cons_zero, List.setIfInBounds_toArray, List.set_cons_zero, List.set_cons_succ]
    refine wpAnyZ_ready (rs := [19]) (by kernel_rfl) (by simp) ?_
    refine (AllReadyZ.cons rfl (fun K hK => ?_) AllReadyZ.nil)
    go_simp
    refine hK.out _ _ (fun h => absurd (by simp) h) ?_
    clear hK K
    try simp only [Act.put, List.getElem_toArray, List.getElem_cons_succ, List.getElem_cons_zero, List.setIfInBounds_toArray, List.set_cons_zero, List.set_cons_succ]
    refine wpAnyZ_done (by kernel_rfl) ?_ _
    refine NoPanic.normal ?_
    clear hH
    go_wp2
    go_ret
    have hr : r < w1.heap.size := H1.out.head.lt
    have hlen : (del k L).length = n - 1 := by
      rw [del_at HL.out.1 HX.out.2.1, List.length_append, List.length_take, List.length_drop, HN.out]
      have := HX.out.2.2.2
      omega
    have hfl : flatK (del k L) = (flatK L).take (i * 3) ++ (flatK L).drop ((i + 1) * 3) := by rw [del_at HL.out.1 HX.out.2.1, flatK_append, flatK_take, flatK_drop]
    refine ⟨.slice A2 (n - 1) c2, by rw [kdelE, if_neg (by rw [HX.out.2.2.1]; simp)]; simp, ⟨HRB.out.put 0 _, ?_⟩, ?_, fun k hk => Or.inr (Nat.le_trans HX.out.1.size (HO.out.2.2.lt k hk).1)⟩
    · rw [hlen, hfl]
      refine ownsRow_setCell_other (ownK_less HO.out.2.2 (Nat.le_trans HBB.out HX.out.1.size)) (fun e => ?_) _
      have := (HO.out.2.2.lt r e).1
      simp at this
      omega
    · exact ((Fr.of_new (S := fun k => k = r) HX.out.1).trans (Fr.of_new HBB2.out)).setCell (p := ⟨r, 0, none⟩) (fun _ => rfl) _

set_option maxHeartbeats 4000000 in
theorem k_find (r B : Nat) (v : Value) (L : Row) (m : Int) (w : World) (h : KRow w r B v L) (hf : L.length ≤ 65535) :
    Calls Try.prog 26 #[.pointer (some ⟨r, 0, none⟩), .int .u64 m] w fun e w' => e = FindR m L ∧ Below w.heap.size w w' := by
  obtain ⟨A, c, rfl, hlc, hcm, hcells⟩ := h.form
  have HH := Lib.hid h
  have HC := Lib.hid hcells
  obtain ⟨l, hl⟩ : ∃ l, L.length = l := ⟨_, rfl⟩
  have HLL := Lib.hid hl
  have c0 := h.head.get 0 rfl
  rw [hl] at c0 hf hlc HC
  clear h hcells hl hcm hlc
  go_enter Try.func26, Try.ntmps26
  go_upto_region 1 with (fail)
  have hb0 : Below w.heap.size w (w.alloc (.cells #[.int .u64 0, .int .i64 0] 31)) := by go_grown
  have kb := Blk.new w 31 #[.int .u64 0, .int .i64 0]
  generalize w.alloc (.cells #[.int .u64 0, .int .i64 0] 31) = w0 at hb0 kb ⊢
  have HB0 := Lib.hid (And.intro hb0 kb)
  have c0 := (hb0.cell (p := ⟨r, 0, none⟩) HH.out.head.lt).trans c0
  have f0 := kb.frozen 0
  have f1 := kb.frozen 1
  have k0 := kb.get 0 rfl
  have k1 := kb.get 1 rfl
  clear hb0 kb
  go_wp2
  go_loopg [6] l (fun gk ix wr => ∃ i : Nat, i + gk = l ∧ ix = .int .i64 i ∧ wr = w0 ∧ anyTo m (L.take i) = false)
  case atStart => exact ⟨0, by omega, rfl, rfl, rfl⟩
  case round =>
    obtain ⟨i, hi, rfl, rfl, hn⟩ := hrel
    have HNO := Lib.hid hn
    clear hn
    by_cases hlt : i < l
    · obtain ⟨gm, rfl⟩ : ∃ gm, gk = gm + 1 := ⟨gk - 1, by omega⟩
      obtain ⟨y, x, q1, q2⟩ := k_lookup (L := L) (i := i) (by rw [HLL.out]; exact hlt)
      obtain ⟨g, rfl, hg1, hg2, hg3⟩ := HC.out (by omega)
      have c1 := (HB0.out.1.cell (p := ⟨g, i * 3, none⟩) hg2).trans (hg3 i _ q1).1
      have c2 := (HB0.out.1.cell (p := ⟨g, i * 3 + 1, none⟩) hg2).trans (hg3 i _ q1).2.1
      have c3 := (HB0.out.1.cell (p := ⟨g, i * 3 + 2, none⟩) hg2).trans (hg3 i _ q1).2.2
      dsimp only at c1 c2 c3
      have HQ := Lib.hid q1
      have p0 : (0 : Int) ≤ (i : Int) := by omega
      have p1 : (i : Int) < (l : Int) := by omega
      have e5 : wrap64 ((i : Int) + 1) = ((i + 1 : Nat) : Int) := by unfold wrap64; omega
      have hsplit : L = L.take i ++ (y, x) :: L.drop (i + 1) := rsplit_at q1
      have HSP := Lib.hid hsplit
      clear hg3 q1 q2 hg1 hg2 hsplit
      by_cases hy : x ≤ m
      · have dy : decide (x ≤ m) = true := decide_eq_true hy
        have HY := Lib.hid hy
        clear hy
        go_wp2
        have kb3 := (HB0.out.2.put 0 (.int .u64 y.1)).put 1 (.int .i64 y.2)
        have b5 : Below w.heap.size w ((wr.setCell ⟨w.heap.size, 0, none⟩ (.int .u64 y.1)).setCell ⟨w.heap.size, 1, none⟩ (.int .i64 y.2)) := (HB0.out.1.setCell (p := ⟨w.heap.size, 0, none⟩) (Nat.le_refl _) _).setCell (p := ⟨w.heap.size, 1, none⟩) (Nat.le_refl _) _
        revert kb3 b5
        generalize ((wr.setCell ⟨w.heap.size, 0, none⟩ (.int .u64 y.1)).setCell ⟨w.heap.size, 1, none⟩ (.int .i64 y.2)) = W3
        intro kb3 b5
        have m0 : W3.cell? ⟨w.heap.size, 0, none⟩ = some (.int .u64 y.1) := kb3.get 0 rfl
        have m1 : W3.cell? ⟨w.heap.size, 1, none⟩ = some (.int .i64 y.2) := kb3.get 1 rfl
        have hfe : findTo m L = some y := by rw [HSP.out, findTo_right HNO.out, findTo_here HY.out]
        refine bodyPost_ret (by simp [results, Try.results26, go_sem, m0, m1]; try rfl) rfl ⟨?_, b5⟩
        rw [FindR, hfe]
        rfl
      · have dy : decide (x ≤ m) = false := decide_eq_false hy
        have HNY := Lib.hid hy
        clear hy
        go_wp2
        go_roundg gm
        case rel => exact ⟨i + 1, by omega, by go_num, rfl, by
          have e : L.take (i + 1) = L.take i ++ [(y, x)] := by
            obtain ⟨hk, e⟩ := List.getElem?_eq_some_iff.1 HQ.out
            rw [List.take_succ_eq_append_getElem hk, e]
          rw [e]
          unfold anyTo at *
          rw [List.any_append, show (L.take i).any (fun p => decide (p.2 ≤ m)) = false from HNO.out]
          simp
          have := HNY.out
          omega⟩
        case measure => omega
    · obtain rfl : gk = 0 := by omega
      obtain rfl : i = l := by omega
      have hno : findTo m L = none := by
        have h := HNO.out
        rw [← HLL.out, List.take_length] at h
        have := findTo_right (B := []) h
        rw [List.append_nil] at this
        rw [this]
        rfl
      have HNN := Lib.hid hno
      clear hno
      go_wp2
      have kb3 := (HB0.out.2.put 0 (.int .u64 0)).put 1 (.int .i64 0)
      have b5 : Below w.heap.size w ((wr.setCell ⟨w.heap.size, 0, none⟩ (.int .u64 0)).setCell ⟨w.heap.size, 1, none⟩ (.int .i64 0)) := (HB0.out.1.setCell (p := ⟨w.heap.size, 0, none⟩) (Nat.le_refl _) _).setCell (p := ⟨w.heap.size, 1, none⟩) (Nat.le_refl _) _
      revert kb3 b5
      generalize ((wr.setCell ⟨w.heap.size, 0, none⟩ (.int .u64 0)).setCell ⟨w.heap.size, 1, none⟩ (.int .i64 0)) = W3
      intro kb3 b5
      have m0 : W3.cell? ⟨w.heap.size, 0, none⟩ = some (.int .u64 0) := kb3.get 0 rfl
      have m1 : W3.cell? ⟨w.heap.size, 1, none⟩ = some (.int .i64 0) := kb3.get 1 rfl
      refine bodyPost_ret (by simp [results, Try.results26, go_sem, m0, m1]; try rfl) rfl ⟨?_, b5⟩
      rw [FindR, HNN.out]
      rfl

end Go.Proofs.Ytjlnbpomncglcaa
