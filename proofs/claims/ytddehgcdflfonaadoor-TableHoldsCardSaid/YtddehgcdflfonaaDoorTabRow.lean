/-
  The document's row of chapter 12: what is put, set, dropped.
-/
import Derived.Test.YtddehgcdflfonaaDoorProg
import Derived.Test.YtddehgcdflfonaaDoorTabSame
import Derived.Test.YtddehgcdflfonaaDoorAppendSrc
import Derived.Test.YtddehgcdflfonaaDoorTabCols
namespace Go.Proofs.YtddehgcdflfonaaDoor
set_option linter.unusedVariables false
set_option linter.unusedSimpArgs false
set_option maxRecDepth 100000
open Go.RowKit Go.Shelf

theorem ref_may (id : Int) (w : World) : Calls Tryd.prog 33 #[.int .i64 id] w fun e w' => e = .returned (.bool (decide (1 ≤ id ∧ id ≤ 65535))) ∧ w = w' := by
  have h3 : id < 1 ∨ (1 ≤ id ∧ id ≤ 65535) ∨ 65535 < id := by omega
  rcases h3 with h | ⟨h, h'⟩ | h
  · rw [decide_eq_false (show ¬ (1 ≤ id ∧ id ≤ 65535) by omega)]
    have d1 : decide (1 ≤ id) = false := decide_eq_false (by omega)
    clear h
    go_enter Tryd.func33, Tryd.ntmps33
    go_wp2
    go_ret
    exact ⟨by simp, rfl⟩
  · rw [decide_eq_true (show 1 ≤ id ∧ id ≤ 65535 from ⟨h, h'⟩)]
    have d1 : decide (1 ≤ id) = true := decide_eq_true h
    have d2 : decide (id ≤ 65535) = true := decide_eq_true h'
    clear h h'
    go_enter Tryd.func33, Tryd.ntmps33
    go_wp2
    go_ret
    exact ⟨by simp, rfl⟩
  · rw [decide_eq_false (show ¬ (1 ≤ id ∧ id ≤ 65535) by omega)]
    have d1 : decide (1 ≤ id) = true := decide_eq_true (by omega)
    have d2 : decide (id ≤ 65535) = false := decide_eq_false (by omega)
    clear h
    go_enter Tryd.func33, Tryd.ntmps33
    go_wp2
    go_ret
    exact ⟨by simp, rfl⟩

/-! ### Rows taken apart -/
theorem tins_at {id x : Int} : ∀ {L : TRow} (a : Nat), a ≤ L.length → (∀ j, (hj : j < L.length) → j < a → (L[j]).1 < id) → (∀ j, (hj : j < L.length) → a ≤ j → id < (L[j]).1) → tins id x L = L.take a ++ (id, x) :: L.drop a
  | [], a, ha, _, _ => by
    obtain rfl : a = 0 := by simpa using ha
    rfl
  | p :: L, 0, _, _, h2 => by
    have := h2 0 (by simp) (Nat.le_refl _)
    simp only [List.getElem_cons_zero] at this
    simp only [tins]
    rw [if_pos this]
    rfl
  | p :: L, a + 1, ha, h1, h2 => by
    have h0 := h1 0 (by simp) (by omega)
    simp only [List.getElem_cons_zero] at h0
    simp only [tins]
    rw [if_neg (by omega), tins_at a (by simpa using ha) (fun j hj hja => by have := h1 (j + 1) (by simpa using hj) (by omega); simpa using this) (fun j hj hja => by have := h2 (j + 1) (by simpa using hj) (by omega); simpa using this)]
    rfl
theorem split_at {L : TRow} {i : Nat} {p : Int × Int} (h : L[i]? = some p) : L = L.take i ++ p :: L.drop (i + 1) := by
  obtain ⟨hi, rfl⟩ := List.getElem?_eq_some_iff.1 h
  rw [← List.drop_eq_getElem_cons hi, List.take_append_drop]
theorem take_less {L : TRow} (h : TRises L) {i : Nat} {p : Int × Int} (e : L[i]? = some p) : (∀ q ∈ L.take i, q.1 < p.1) ∧ ∀ q ∈ L.drop (i + 1), p.1 < q.1 := by
  have hs := split_at e
  unfold TRises at h
  rw [hs, List.pairwise_append] at h
  obtain ⟨-, h2, h3⟩ := h
  exact ⟨fun q hq => h3 q hq p (List.mem_cons_self ..), fun q hq => (List.pairwise_cons.1 h2).1 q hq⟩
theorem tdel_at {L : TRow} (h : TRises L) {i : Nat} {id x : Int} (e : L[i]? = some (id, x)) : tdel id L = L.take i ++ L.drop (i + 1) := by
  obtain ⟨h1, h2⟩ := take_less h e
  conv => lhs; rw [split_at e]
  unfold tdel
  rw [List.filter_append, List.filter_cons, if_neg (by simp), List.filter_eq_self.2 (fun q hq => by have := h1 q hq; simp only at this; simp; omega), List.filter_eq_self.2 (fun q hq => by have := h2 q hq; simp only at this; simp; omega)]
theorem tset_at {L : TRow} (h : TRises L) {i : Nat} {id x y : Int} (e : L[i]? = some (id, x)) : tset id y L = L.take i ++ (id, y) :: L.drop (i + 1) := by
  obtain ⟨h1, h2⟩ := take_less h e
  conv => lhs; rw [split_at e]
  unfold tset
  rw [List.map_append, List.map_cons, if_pos rfl]
  congr 1
  · conv => rhs; rw [← List.map_id (L.take i)]
    exact List.map_congr_left fun q hq => by rw [if_neg (by have := h1 q hq; simp only at this; omega)]; rfl
  · congr 1
    conv => rhs; rw [← List.map_id (L.drop (i + 1))]
    exact List.map_congr_left fun q hq => by rw [if_neg (by have := h2 q hq; simp only at this; omega)]; rfl
theorem flatR_take (L : TRow) : ∀ a, (flatR L).take (a * 2) = flatR (L.take a) := by
  induction L with
  | nil => intro a; simp [flatR]
  | cons p L ih =>
    intro a
    cases a with
    | zero => simp [flatR]
    | succ a =>
      have e : flatR (p :: L) = .int .i64 p.1 :: .int .u64 p.2 :: flatR L := rfl
      rw [e, show (a + 1) * 2 = a * 2 + 1 + 1 by omega, List.take_succ_cons, List.take_succ_cons, ih, List.take_succ_cons]
      rfl
theorem flatR_drop (L : TRow) : ∀ a, (flatR L).drop (a * 2) = flatR (L.drop a) := by
  induction L with
  | nil => intro a; simp [flatR]
  | cons p L ih =>
    intro a
    cases a with
    | zero => simp
    | succ a =>
      have e : flatR (p :: L) = .int .i64 p.1 :: .int .u64 p.2 :: flatR L := rfl
      rw [e, show (a + 1) * 2 = a * 2 + 1 + 1 by omega, List.drop_succ_cons, List.drop_succ_cons, ih, List.drop_succ_cons]
theorem flatR_set {L : TRow} (h : TRises L) {i : Nat} {id x y : Int} (e : L[i]? = some (id, x)) : flatR (tset id y L) = (flatR L).set (i * 2 + 1) (.int .u64 y) := by
  have hi := (List.getElem?_eq_some_iff.1 e).1
  have hl : (flatR (L.take i)).length = i * 2 := by rw [flatR_length, List.length_take]; omega
  rw [tset_at h e]
  conv => rhs; rw [split_at e]
  rw [flatR_append, flatR_append, List.set_append_right _ _ (by omega), hl, show i * 2 + 1 - i * 2 = 1 by omega]
  rfl
theorem flatR_one : ∀ (L : TRow), ∀ u ∈ flatR L, u.oneCell' = true
  | [], u, h => by cases h
  | p :: L, u, h => by
    have e : flatR (p :: L) = .int .i64 p.1 :: .int .u64 p.2 :: flatR L := rfl
    rw [e] at h
    rcases List.mem_cons.1 h with rfl | h
    · rfl
    · rcases List.mem_cons.1 h with rfl | h
      · rfl
      · exact flatR_one L u h

theorem RowAt.apart {w : World} {r B g : Nat} {v : Value} {L : TRow} (h : RowAt w r B v L) (hg : v.ownBlock = some g) : g ≠ r := by
  rintro rfl
  rcases h.own.2 with ⟨rfl, _⟩ | ⟨g', cap, cur, rfl, hb, hgg, _⟩
  · cases hg
  · cases hg
    have := h.head
    unfold Blk at this
    rw [hgg] at this
    simp only [Option.some.injEq, Obj.cells.injEq] at this
    exact absurd this.2.1 (by decide)
theorem row_info : ∃ i, RowInfo Tryd.prog 48 72 i (.agg #[.int .i64 0, .int .u64 0]) 2 16 := by
  obtain ⟨i0, hi, hz0, hz1, hz2⟩ := info_parts (show (Tryd.prog.info? 72).map (fun i => (i.zero, i.size, i.bytes)) = some (some (.agg #[.int .i64 0, .int .u64 0]), 2, 16) by kernel_rfl)
  exact ⟨i0, Tryd.underlying48, hi, hz0, hz1, hz2, by simp [Value.cells], by decide, by decide⟩

set_option maxHeartbeats 4000000 in
theorem ref_set (r B : Nat) (v : Value) (L : TRow) (id y : Int) (w : World) (h : RowAt w r B v L) (hL : TOk L) :
    Calls Tryd.prog 24 #[.pointer (some ⟨r, 0, none⟩), .int .i64 id, .int .u64 y] w fun e w' => e = .returned (.int .i64 (askE L id true)) ∧ RowAt w' r B v (tset id y L) ∧ Fr (fun k => v.ownBlock = some k) w w' := by
  have H := Lib.hid h
  have HL := Lib.hid hL
  clear h hL
  have MAY := Lib.hid (fun w => ref_may id w)
  by_cases hm : 1 ≤ id ∧ id ≤ 65535
  · rw [decide_eq_true hm] at MAY
    have HMM := Lib.hid hm
    clear hm
    go_enter Tryd.func24, Tryd.ntmps24
    go_wp2_with fail
    with_reducible refine (MAY.out _).mono ?_
    rintro e wx ⟨rfl, rfl⟩
    go_wp2_with fail
    with_reducible refine (ref_at r B v L id w H.out HL.out.rises HL.out.few).mono ?_
    rintro e w1 ⟨hb1, k, rfl, hk⟩
    rcases hk with ⟨hn, rfl⟩ | ⟨i, x, rfl, hq, hx⟩
    · have HB := Lib.hid (And.intro hb1 hn)
      clear hb1 hn
      go_wp2
      go_ret
      refine ⟨by rw [askE_gone HMM.out.1 HMM.out.2 HB.out.2]; simp, ?_, Fr.of_new HB.out.1⟩
      rw [tset_none HB.out.2]
      exact H.out.next HB.out.1
    · have H1 := Lib.hid (H.out.next hb1)
      obtain ⟨A, c, rfl, -⟩ := H.out.form
      obtain ⟨g, rfl, hg, ci, cv⟩ := H1.out.cells hq
      have hi := (List.getElem?_eq_some_iff.1 hq).1
      have HX := Lib.hid (And.intro hb1 (And.intro hq (And.intro hx hg)))
      have cH := H1.out.head.get 0 rfl
      have p0 : (0 : Int) ≤ (i : Int) := by omega
      have p1 : (i : Int) < (L.length : Int) := by omega
      have d1 : decide ((i : Int) < 0) = false := decide_eq_false (by omega)
      have fv : w1.frozen? ⟨g, i * 2 + 1, none⟩ = false := by
        rcases H1.out.own.2 with ⟨hv, _⟩ | ⟨g', cap, cur, hv, hb, hgg, _⟩
        · cases hv
        · cases hv
          exact Blk.frozen hgg _
      clear hb1 hq hx hg ci hi
      go_wp2
      go_ret
      have hne := H1.out.apart (g := g) rfl
      refine ⟨by rw [askE_some HL.out HX.out.2.2.1]; simp, ⟨?_, ?_⟩, ?_⟩
      · exact H1.out.head.far (p := ⟨g, i * 2 + 1, none⟩) (Ne.symm hne) _
      · rw [flatR_set HL.out.rises HX.out.2.1, show (tset id y L).length = L.length from List.length_map ..]
        exact own_set H1.out.own (by have := (List.getElem?_eq_some_iff.1 HX.out.2.1).1; omega) _
      · exact (Fr.of_new (S := fun k => (Value.slice (some ⟨g, 0, none⟩) L.length c).ownBlock = some k) HX.out.1).setCell (p := ⟨g, i * 2 + 1, none⟩) (fun _ => rfl) _
  · rw [decide_eq_false hm] at MAY
    have HMM := Lib.hid hm
    clear hm
    go_enter Tryd.func24, Tryd.ntmps24
    go_wp2_with fail
    with_reducible refine (MAY.out _).mono ?_
    rintro e wx ⟨rfl, rfl⟩
    go_wp2
    go_ret
    have hn : tget id L = none := tget_none.2 fun p hp e => HMM.out (e ▸ HL.out.ids p hp)
    refine ⟨by rw [askE_not HMM.out]; simp, ?_, Fr.refl _ _⟩
    rw [tset_none hn]
    exact H.out

set_option maxHeartbeats 4000000 in
theorem ref_drop (r B : Nat) (v : Value) (L : TRow) (id : Int) (w : World) (h : RowAt w r B v L) (hB : B ≤ w.heap.size) (hL : TOk L) :
    Calls Tryd.prog 25 #[.pointer (some ⟨r, 0, none⟩), .int .i64 id] w fun e w' => ∃ v', e = .returned (.int .i64 (askE L id true)) ∧ RowAt w' r B v' (tdel id L) ∧ Fr (fun k => k = r) w w' ∧ ∀ k, v'.ownBlock = some k → v.ownBlock = some k ∨ w.heap.size ≤ k := by
  have H := Lib.hid h
  have HL := Lib.hid hL
  have HBB := Lib.hid hB
  clear h hL hB
  have MAY := Lib.hid (fun w => ref_may id w)
  by_cases hm : 1 ≤ id ∧ id ≤ 65535
  · rw [decide_eq_true hm] at MAY
    have HMM := Lib.hid hm
    clear hm
    go_enter Tryd.func25, Tryd.ntmps25
    go_wp2_with fail
    with_reducible refine (MAY.out _).mono ?_
    rintro e wx ⟨rfl, rfl⟩
    go_wp2_with fail
    with_reducible refine (ref_at r B v L id w H.out HL.out.rises HL.out.few).mono ?_
    rintro e w1 ⟨hb1, k, rfl, hk⟩
    rcases hk with ⟨hn, rfl⟩ | ⟨i, x, rfl, hq, hx⟩
    · have HB := Lib.hid (And.intro hb1 hn)
      clear hb1 hn
      go_wp2
      go_ret
      refine ⟨v, by rw [askE_gone HMM.out.1 HMM.out.2 HB.out.2]; simp, ?_, Fr.of_new HB.out.1, fun k hk => Or.inl hk⟩
      rw [tdel_none HB.out.2]
      exact H.out.next HB.out.1
    · have H1 := Lib.hid (H.out.next hb1)
      obtain ⟨A, c, rfl, hlc, -⟩ := H.out.form
      have hi := (List.getElem?_eq_some_iff.1 hq).1
      have HX := Lib.hid (And.intro hb1 (And.intro hq (And.intro hx hi)))
      obtain ⟨n, hn⟩ : ∃ n, L.length = n := ⟨_, rfl⟩
      have HN := Lib.hid hn
      have hfew := HL.out.few
      rw [hn] at hi hfew hlc H1
      obtain ⟨i0, hi0⟩ := row_info
      have hown : w1.drew.ownsRow B 72 2 (.slice A n c) n (flatR L) := by
        have := own_next H1.out.own (below_of_drew (Below.refl w1.heap.size w1))
        rw [hn] at this
        exact this
      obtain ⟨v1, wA, v2, wB, r1, bA, r2, bB, oB⟩ := hi0.less 48 hown (show i < n from hi) (flatR_one L) (by omega)
      obtain ⟨A2, c2, rfl⟩ := own_slice oB
      have HR1 := Lib.hid r1
      have HR2 := Lib.hid r2
      have HO := Lib.hid (And.intro bA (And.intro bB oB))
      clear r1 r2 bA bB oB hown hi0
      have HSZ := Lib.hid (show w1.drew.heap.size = w1.heap.size from rfl)
      have p0 : (0 : Int) ≤ (i : Int) := by omega
      have p1 : (i : Int) < (n : Int) := by omega
      have p2 : (i : Int) ≤ (n : Int) := by omega
      have p3 : (i : Int) + 1 ≤ (n : Int) := by omega
      have p4 : (n : Int) ≤ (c : Int) := by omega
      have p5 : (i : Int) ≤ (c : Int) := by omega
      have d1 : decide ((i : Int) < 0) = false := decide_eq_false (by omega)
      have e5 : IntKind.i64.wrap ((i : Int) + 1) = ((i + 1 : Nat) : Int) := by rw [IntKind.wrap_i64]; omega
      have p6 : (0 : Int) ≤ (i : Int) + 1 := by omega
      have p7 : ((i + 1 : Nat) : Int) ≤ (n : Int) := by omega
      have KR : Hid (∀ w', Below (w1.heap.size) w1 w' → (w'.cell? ⟨r, 0, none⟩ = some (.slice A n c)) ∧ Below (w1.heap.size) w1 w') := fun w' hb => ⟨((H1.out.head.next hb).get 0 rfl), hb⟩
      clear hb1 hq hx hn
      obtain ⟨A', hA'⟩ : ∃ z, (if c = i + 1 then A else A.map (·.add ((i + 1) * 2))) = z := ⟨_, rfl⟩
      rw [hA'] at HR2
      have HA' := Lib.hid hA'
      have hbB : Below w1.heap.size w1 wB := (below_of_drew (Below.refl w1.heap.size w1)).trans HO.out.2.1
      have HBB2 := Lib.hid hbB
      have bRB := H1.out.head.next hbB
      have cB := bRB.get 0 rfl
      have fB := bRB.frozen 0
      have HRB := Lib.hid bRB
      clear hbB bRB
      go_wp2_with fail
      refine wp_region_noPanic ?_
      refine wp_region_Z [19] (fun w' => (w'.cell? ⟨r, 0, none⟩ = some (.slice A n c)) ∧ Below (w1.heap.size) w1 w') (by kernel_rfl) (KR.out _ (below_of_drew (Below.refl w1.heap.size w1))) (fun hH => ?_)
      have hbR := below_of_drew (Below.refl w1.heap.size w1)
      first | (refine wpAnyZ_take (i := 0) (v := undef) rfl ?_ ?_ ?_ ?_ (fun _ _ _ h => h) ?_ ?_ ?_; kernel_rfl; kernel_rfl; kernel_rfl; kernel_rfl; exact Or.inr ⟨by rfl, rfl⟩; exact hH) | (refine wpAnyZ_take (i := 0) (v := ?_) rfl ?_ ?_ ?_ ?_ (fun _ _ _ h => h) ?_ ?_ ?_; rotate_left; kernel_rfl; kernel_rfl; kernel_rfl; kernel_rfl; (focus (refine Or.inl ⟨by rfl, ?_⟩; intro w' hSw; (try dsimp only at hSw); go_simp)); exact hH) | (refine wpAnyZ_take (i := 0) (v := ?_) rfl ?_ ?_ ?_ ?_ (fun _ _ _ h => h) ?_ ?_ ?_; rotate_left; kernel_rfl; kernel_rfl; kernel_rfl; kernel_rfl; (focus (refine Or.inl ⟨by rfl, ?_⟩; intro w' hSw; (try dsimp only at hSw); go_simp; with_reducible rfl)); exact hH)
      try simp only [Act.put, List.getElem_toArray, List.getElem_cons_succ, List.getElem_cons_zero, List.setIfInBounds_toArray, List.set_cons_zero, List.set_cons_succ]
      first | (refine wpAnyZ_take (i := 2) (v := undef) rfl ?_ ?_ ?_ ?_ (fun _ _ _ h => h) ?_ ?_ ?_; kernel_rfl; kernel_rfl; kernel_rfl; kernel_rfl; exact Or.inr ⟨by rfl, rfl⟩; exact hH) | (refine wpAnyZ_take (i := 2) (v := ?_) rfl ?_ ?_ ?_ ?_ (fun _ _ _ h => h) ?_ ?_ ?_; rotate_left; kernel_rfl; kernel_rfl; kernel_rfl; kernel_rfl; (focus (refine Or.inl ⟨by rfl, ?_⟩; intro w' hSw; (try dsimp only at hSw); go_simp)); exact hH) | (refine wpAnyZ_take (i := 2) (v := ?_) rfl ?_ ?_ ?_ ?_ (fun _ _ _ h => h) ?_ ?_ ?_; rotate_left; kernel_rfl; kernel_rfl; kernel_rfl; kernel_rfl; (focus (refine Or.inl ⟨by rfl, ?_⟩; intro w' hSw; (try dsimp only at hSw); go_simp; with_reducible rfl)); exact hH)
      try simp only [Act.put, List.getElem_toArray, List.getElem_cons_succ, List.getElem_cons_zero, List.setIfInBounds_toArray, List.set_cons_zero, List.set_cons_succ]
      first | (refine wpAnyZ_take (i := 3) (v := undef) rfl ?_ ?_ ?_ ?_ (fun _ _ _ h => h) ?_ ?_ ?_; kernel_rfl; kernel_rfl; kernel_rfl; kernel_rfl; exact Or.inr ⟨by rfl, rfl⟩; exact hH) | (refine wpAnyZ_take (i := 3) (v := ?_) rfl ?_ ?_ ?_ ?_ (fun _ _ _ h => h) ?_ ?_ ?_; rotate_left; kernel_rfl; kernel_rfl; kernel_rfl; kernel_rfl; (focus (refine Or.inl ⟨by rfl, ?_⟩; intro w' hSw; (try dsimp only at hSw); go_simp)); exact hH) | (refine wpAnyZ_take (i := 3) (v := ?_) rfl ?_ ?_ ?_ ?_ (fun _ _ _ h => h) ?_ ?_ ?_; rotate_left; kernel_rfl; kernel_rfl; kernel_rfl; kernel_rfl; (focus (refine Or.inl ⟨by rfl, ?_⟩; intro w' hSw; (try dsimp only at hSw); go_simp; with_reducible rfl)); exact hH)
      try simp only [Act.put, List.getElem_toArray, List.getElem_cons_succ, List.getElem_cons_zero, List.setIfInBounds_toArray, List.set_cons_zero, List.set_cons_succ]
      first | (refine wpAnyZ_take (i := 4) (v := undef) rfl ?_ ?_ ?_ ?_ (fun _ _ _ h => h) ?_ ?_ ?_; kernel_rfl; kernel_rfl; kernel_rfl; kernel_rfl; exact Or.inr ⟨by rfl, rfl⟩; exact hH) | (refine wpAnyZ_take (i := 4) (v := ?_) rfl ?_ ?_ ?_ ?_ (fun _ _ _ h => h) ?_ ?_ ?_; rotate_left; kernel_rfl; kernel_rfl; kernel_rfl; kernel_rfl; (focus (refine Or.inl ⟨by rfl, ?_⟩; intro w' hSw; (try dsimp only at hSw); go_simp)); exact hH) | (refine wpAnyZ_take (i := 4) (v := ?_) rfl ?_ ?_ ?_ ?_ (fun _ _ _ h => h) ?_ ?_ ?_; rotate_left; kernel_rfl; kernel_rfl; kernel_rfl; kernel_rfl; (focus (refine Or.inl ⟨by rfl, ?_⟩; intro w' hSw; (try dsimp only at hSw); go_simp; with_reducible rfl)); exact hH)
      try simp only [Act.put, List.getElem_toArray, List.getElem_cons_succ, List.getElem_cons_zero, List.setIfInBounds_toArray, List.set_cons_zero, List.set_cons_succ]
      first | (refine wpAnyZ_take (i := 5) (v := undef) rfl ?_ ?_ ?_ ?_ (fun _ _ _ h => h) ?_ ?_ ?_; kernel_rfl; kernel_rfl; kernel_rfl; kernel_rfl; exact Or.inr ⟨by rfl, rfl⟩; exact hH) | (refine wpAnyZ_take (i := 5) (v := ?_) rfl ?_ ?_ ?_ ?_ (fun _ _ _ h => h) ?_ ?_ ?_; rotate_left; kernel_rfl; kernel_rfl; kernel_rfl; kernel_rfl; (focus (refine Or.inl ⟨by rfl, ?_⟩; intro w' hSw; (try dsimp only at hSw); go_simp)); exact hH) | (refine wpAnyZ_take (i := 5) (v := ?_) rfl ?_ ?_ ?_ ?_ (fun _ _ _ h => h) ?_ ?_ ?_; rotate_left; kernel_rfl; kernel_rfl; kernel_rfl; kernel_rfl; (focus (refine Or.inl ⟨by rfl, ?_⟩; intro w' hSw; (try dsimp only at hSw); go_simp; with_reducible rfl)); exact hH)
      try simp only [Act.put, List.getElem_toArray, List.getElem_cons_succ, List.getElem_cons_zero, List.setIfInBounds_toArray, List.set_cons_zero, List.set_cons_succ]
      first | (refine wpAnyZ_take (i := 6) (v := undef) rfl ?_ ?_ ?_ ?_ (fun _ _ _ h => h) ?_ ?_ ?_; kernel_rfl; kernel_rfl; kernel_rfl; kernel_rfl; exact Or.inr ⟨by rfl, rfl⟩; exact hH) | (refine wpAnyZ_take (i := 6) (v := ?_) rfl ?_ ?_ ?_ ?_ (fun _ _ _ h => h) ?_ ?_ ?_; rotate_left; kernel_rfl; kernel_rfl; kernel_rfl; kernel_rfl; (focus (refine Or.inl ⟨by rfl, ?_⟩; intro w' hSw; (try dsimp only at hSw); go_simp)); exact hH) | (refine wpAnyZ_take (i := 6) (v := ?_) rfl ?_ ?_ ?_ ?_ (fun _ _ _ h => h) ?_ ?_ ?_; rotate_left; kernel_rfl; kernel_rfl; kernel_rfl; kernel_rfl; (focus (refine Or.inl ⟨by rfl, ?_⟩; intro w' hSw; (try dsimp only at hSw); go_simp; with_reducible rfl)); exact hH)
      try simp only [Act.put, List.getElem_toArray, List.getElem_cons_succ, List.getElem_cons_zero, List.setIfInBounds_toArray, List.set_cons_zero, List.set_cons_succ]
      first | (refine wpAnyZ_take (i := 7) (v := undef) rfl ?_ ?_ ?_ ?_ (fun _ _ _ h => h) ?_ ?_ ?_; kernel_rfl; kernel_rfl; kernel_rfl; kernel_rfl; exact Or.inr ⟨by rfl, rfl⟩; exact hH) | (refine wpAnyZ_take (i := 7) (v := ?_) rfl ?_ ?_ ?_ ?_ (fun _ _ _ h => h) ?_ ?_ ?_; rotate_left; kernel_rfl; kernel_rfl; kernel_rfl; kernel_rfl; (focus (refine Or.inl ⟨by rfl, ?_⟩; intro w' hSw; (try dsimp only at hSw); go_simp)); exact hH) | (refine wpAnyZ_take (i := 7) (v := ?_) rfl ?_ ?_ ?_ ?_ (fun _ _ _ h => h) ?_ ?_ ?_; rotate_left; kernel_rfl; kernel_rfl; kernel_rfl; kernel_rfl; (focus (refine Or.inl ⟨by rfl, ?_⟩; intro w' hSw; (try dsimp only at hSw); go_simp; with_reducible rfl)); exact hH)
      try simp only [Act.put, List.getElem_toArray, List.getElem_cons_succ, List.getElem_cons_zero, List.setIfInBounds_toArray, List.set_cons_zero, List.set_cons_succ]
      first | (refine wpAnyZ_take (i := 9) (v := undef) rfl ?_ ?_ ?_ ?_ (fun _ _ _ h => h) ?_ ?_ ?_; kernel_rfl; kernel_rfl; kernel_rfl; kernel_rfl; exact Or.inr ⟨by rfl, rfl⟩; exact hH) | (refine wpAnyZ_take (i := 9) (v := ?_) rfl ?_ ?_ ?_ ?_ (fun _ _ _ h => h) ?_ ?_ ?_; rotate_left; kernel_rfl; kernel_rfl; kernel_rfl; kernel_rfl; (focus (refine Or.inl ⟨by rfl, ?_⟩; intro w' hSw; (try dsimp only at hSw); go_simp)); exact hH) | (refine wpAnyZ_take (i := 9) (v := ?_) rfl ?_ ?_ ?_ ?_ (fun _ _ _ h => h) ?_ ?_ ?_; rotate_left; kernel_rfl; kernel_rfl; kernel_rfl; kernel_rfl; (focus (refine Or.inl ⟨by rfl, ?_⟩; intro w' hSw; (try dsimp only at hSw); go_simp; with_reducible rfl)); exact hH)
      try simp only [Act.put, List.getElem_toArray, List.getElem_cons_succ, List.getElem_cons_zero, List.setIfInBounds_toArray, List.set_cons_zero, List.set_cons_succ]
      first | (refine wpAnyZ_take (i := 10) (v := undef) rfl ?_ ?_ ?_ ?_ (fun _ _ _ h => h) ?_ ?_ ?_; kernel_rfl; kernel_rfl; kernel_rfl; kernel_rfl; exact Or.inr ⟨by rfl, rfl⟩; exact hH) | (refine wpAnyZ_take (i := 10) (v := ?_) rfl ?_ ?_ ?_ ?_ (fun _ _ _ h => h) ?_ ?_ ?_; rotate_left; kernel_rfl; kernel_rfl; kernel_rfl; kernel_rfl; (focus (refine Or.inl ⟨by rfl, ?_⟩; intro w' hSw; (try dsimp only at hSw); go_simp)); exact hH) | (refine wpAnyZ_take (i := 10) (v := ?_) rfl ?_ ?_ ?_ ?_ (fun _ _ _ h => h) ?_ ?_ ?_; rotate_left; kernel_rfl; kernel_rfl; kernel_rfl; kernel_rfl; (focus (refine Or.inl ⟨by rfl, ?_⟩; intro w' hSw; (try dsimp only at hSw); go_simp; with_reducible rfl)); exact hH)
      try simp only [Act.put, List.getElem_toArray, List.getElem_cons_succ, List.getElem_cons_zero, List.setIfInBounds_toArray, List.set_cons_zero, List.set_cons_succ]
      first | (refine wpAnyZ_take (i := 11) (v := undef) rfl ?_ ?_ ?_ ?_ (fun _ _ _ h => h) ?_ ?_ ?_; kernel_rfl; kernel_rfl; kernel_rfl; kernel_rfl; exact Or.inr ⟨by rfl, rfl⟩; exact hH) | (refine wpAnyZ_take (i := 11) (v := ?_) rfl ?_ ?_ ?_ ?_ (fun _ _ _ h => h) ?_ ?_ ?_; rotate_left; kernel_rfl; kernel_rfl; kernel_rfl; kernel_rfl; (focus (refine Or.inl ⟨by rfl, ?_⟩; intro w' hSw; (try dsimp only at hSw); go_simp)); exact hH) | (refine wpAnyZ_take (i := 11) (v := ?_) rfl ?_ ?_ ?_ ?_ (fun _ _ _ h => h) ?_ ?_ ?_; rotate_left; kernel_rfl; kernel_rfl; kernel_rfl; kernel_rfl; (focus (refine Or.inl ⟨by rfl, ?_⟩; intro w' hSw; (try dsimp only at hSw); go_simp; with_reducible rfl)); exact hH)
      try simp only [Act.put, List.getElem_toArray, List.getElem_cons_succ, List.getElem_cons_zero, List.setIfInBounds_toArray, List.set_cons_zero, List.set_cons_succ]
      first | (refine wpAnyZ_take (i := 12) (v := undef) rfl ?_ ?_ ?_ ?_ (fun _ _ _ h => h) ?_ ?_ ?_; kernel_rfl; kernel_rfl; kernel_rfl; kernel_rfl; exact Or.inr ⟨by rfl, rfl⟩; exact hH) | (refine wpAnyZ_take (i := 12) (v := ?_) rfl ?_ ?_ ?_ ?_ (fun _ _ _ h => h) ?_ ?_ ?_; rotate_left; kernel_rfl; kernel_rfl; kernel_rfl; kernel_rfl; (focus (refine Or.inl ⟨by rfl, ?_⟩; intro w' hSw; (try dsimp only at hSw); go_simp)); exact hH) | (refine wpAnyZ_take (i := 12) (v := ?_) rfl ?_ ?_ ?_ ?_ (fun _ _ _ h => h) ?_ ?_ ?_; rotate_left; kernel_rfl; kernel_rfl; kernel_rfl; kernel_rfl; (focus (refine Or.inl ⟨by rfl, ?_⟩; intro w' hSw; (try dsimp only at hSw); go_simp; with_reducible rfl)); exact hH)
      try simp only [Act.put, List.getElem_toArray, List.getElem_cons_succ, List.getElem_cons_zero, List.setIfInBounds_toArray, List.set_cons_zero, List.set_cons_succ]
      first | (refine wpAnyZ_take (i := 13) (v := undef) rfl ?_ ?_ ?_ ?_ (fun _ _ _ h => h) ?_ ?_ ?_; kernel_rfl; kernel_rfl; kernel_rfl; kernel_rfl; exact Or.inr ⟨by rfl, rfl⟩; exact hH) | (refine wpAnyZ_take (i := 13) (v := ?_) rfl ?_ ?_ ?_ ?_ (fun _ _ _ h => h) ?_ ?_ ?_; rotate_left; kernel_rfl; kernel_rfl; kernel_rfl; kernel_rfl; (focus (refine Or.inl ⟨by rfl, ?_⟩; intro w' hSw; (try dsimp only at hSw); go_simp)); exact hH) | (refine wpAnyZ_take (i := 13) (v := ?_) rfl ?_ ?_ ?_ ?_ (fun _ _ _ h => h) ?_ ?_ ?_; rotate_left; kernel_rfl; kernel_rfl; kernel_rfl; kernel_rfl; (focus (refine Or.inl ⟨by rfl, ?_⟩; intro w' hSw; (try dsimp only at hSw); go_simp; with_reducible rfl)); exact hH)
      try simp only [Act.put, List.getElem_toArray, List.getElem_cons_succ, List.getElem_cons_zero, List.setIfInBounds_toArray, List.set_cons_zero, List.set_cons_succ]
      first | (refine wpAnyZ_take (i := 14) (v := undef) rfl ?_ ?_ ?_ ?_ (fun _ _ _ h => h) ?_ ?_ ?_; kernel_rfl; kernel_rfl; kernel_rfl; kernel_rfl; exact Or.inr ⟨by rfl, rfl⟩; exact hH) | (refine wpAnyZ_take (i := 14) (v := ?_) rfl ?_ ?_ ?_ ?_ (fun _ _ _ h => h) ?_ ?_ ?_; rotate_left; kernel_rfl; kernel_rfl; kernel_rfl; kernel_rfl; (focus (refine Or.inl ⟨by rfl, ?_⟩; intro w' hSw; (try dsimp only at hSw); go_simp)); exact hH) | (refine wpAnyZ_take (i := 14) (v := ?_) rfl ?_ ?_ ?_ ?_ (fun _ _ _ h => h) ?_ ?_ ?_; rotate_left; kernel_rfl; kernel_rfl; kernel_rfl; kernel_rfl; (focus (refine Or.inl ⟨by rfl, ?_⟩; intro w' hSw; (try dsimp only at hSw); go_simp; with_reducible rfl)); exact hH)
      try simp only [Act.put, List.getElem_toArray, List.getElem_cons_succ, List.getElem_cons_zero, List.setIfInBounds_toArray, List.set_cons_zero, List.set_cons_succ]
      first | (refine wpAnyZ_take (i := 15) (v := undef) rfl ?_ ?_ ?_ ?_ (fun _ _ _ h => h) ?_ ?_ ?_; kernel_rfl; kernel_rfl; kernel_rfl; kernel_rfl; exact Or.inr ⟨by rfl, rfl⟩; exact hH) | (refine wpAnyZ_take (i := 15) (v := ?_) rfl ?_ ?_ ?_ ?_ (fun _ _ _ h => h) ?_ ?_ ?_; rotate_left; kernel_rfl; kernel_rfl; kernel_rfl; kernel_rfl; (focus (refine Or.inl ⟨by rfl, ?_⟩; intro w' hSw; (try dsimp only at hSw); go_simp)); exact hH) | (refine wpAnyZ_take (i := 15) (v := ?_) rfl ?_ ?_ ?_ ?_ (fun _ _ _ h => h) ?_ ?_ ?_; rotate_left; kernel_rfl; kernel_rfl; kernel_rfl; kernel_rfl; (focus (refine Or.inl ⟨by rfl, ?_⟩; intro w' hSw; (try dsimp only at hSw); go_simp; with_reducible rfl)); exact hH)
      try simp only [Act.put, List.getElem_toArray, List.getElem_cons_succ, List.getElem_cons_zero, List.setIfInBounds_toArray, List.set_cons_zero, List.set_cons_succ]
      refine wpAnyZ_ready (rs := [1]) (by kernel_rfl) (by simp) ?_
      refine (AllReadyZ.cons rfl (fun K hK => ?_) AllReadyZ.nil)
      go_simp
      have E0b1 : Blk (w1.drew.alloc (.cells #[] 72)) (w1.heap.size) 72 #[] := Blk.new_at (by simp)
      have QGE0 : w1.heap.size ≤ w1.heap.size := Nat.le_trans (Below.size (hbR)) (Nat.le_of_eq (by simp))
      have hb1 := Below.alloc (hbR) (Below.size (hbR)) (.cells #[] 72)
      have hH1 := KR.out _ hb1
      refine hK.out _ _ (fun _ => hH1) ?_
      clear hK K hH
      have hH := hH1
      clear hH1
      try simp only [Act.put, List.getElem_toArray, List.getElem_cons_succ, List.getElem_cons_zero, List.setIfInBounds_toArray, List.set_cons_zero, List.set_cons_succ]
      refine wpAnyZ_ready (rs := [8]) (by kernel_rfl) (by simp) ?_
      refine (AllReadyZ.cons rfl (fun K hK => ?_) AllReadyZ.nil)
      refine want_yes (by rfl) ?_
      refine wp_append_known _ _ 48 rfl _ _ _ (by rfl) (by rfl) HR1.out ?_
      have hH2 := KR.out _ ((below_of_drew (Below.refl w1.heap.size w1)).trans HO.out.1)
      refine hK.out _ _ (fun _ => hH2) ?_
      clear hK K hH
      have hH := hH2
      clear hH2
      try simp only [Act.put, List.getElem_toArray, List.getElem_cons_succ, List.getElem_cons_zero, List.setIfInBounds_toArray, List.set_cons_zero, List.set_cons_succ]
      refine wpAnyZ_ready (rs := [16]) (by kernel_rfl) (by simp) ?_
      refine (AllReadyZ.cons rfl (fun K hK => ?_) AllReadyZ.nil)
      refine want_yes (by rfl) ?_
      refine wp_append_known _ _ 48 rfl _ _ _ (by rfl) (by rfl) HR2.out ?_
      have hH3 := KR.out _ HBB2.out
      refine hK.out _ _ (fun _ => hH3) ?_
      clear hK K hH
      have hH := hH3
      clear hH3
      try simp only [Act.put, List.getElem_toArray, List.getElem_cons_succ, List.getElem_cons_zero, List.setIfInBounds_toArray, List.set_cons_zero, List.set_cons_succ]
      refine wpAnyZ_ready (rs := [17]) (by kernel_rfl) (by simp) ?_
      refine (AllReadyZ.cons rfl (fun K hK => ?_) AllReadyZ.nil)
      go_simp
      refine hK.out _ _ (fun _ => hH) ?_
      clear hK K
      try simp only [Act.put, List.getElem_toArray, List.getElem_cons_succ, List.getElem_cons_zero, List.setIfInBounds_toArray, List.set_cons_zero, List.set_cons_succ]
      first | (refine wpAnyZ_take (i := 18) (v := undef) rfl ?_ ?_ ?_ ?_ (fun _ _ _ h => h) ?_ ?_ ?_; kernel_rfl; kernel_rfl; kernel_rfl; kernel_rfl; exact Or.inr ⟨by rfl, rfl⟩; exact hH) | (refine wpAnyZ_take (i := 18) (v := ?_) rfl ?_ ?_ ?_ ?_ (fun _ _ _ h => h) ?_ ?_ ?_; rotate_left; kernel_rfl; kernel_rfl; kernel_rfl; kernel_rfl; (focus (refine Or.inl ⟨by rfl, ?_⟩; intro w' hSw; (try dsimp only at hSw); go_simp)); exact hH) | (refine wpAnyZ_take (i := 18) (v := ?_) rfl ?_ ?_ ?_ ?_ (fun _ _ _ h => h) ?_ ?_ ?_; rotate_left; kernel_rfl; kernel_rfl; kernel_rfl; kernel_rfl; (focus (refine Or.inl ⟨by rfl, ?_⟩; intro w' hSw; (try dsimp only at hSw); go_simp; with_reducible rfl)); exact hH)
      try simp only [Act.put, List.getElem_toArray, List.getElem_cons_succ, List.getElem_cons_zero, List.setIfInBounds_toArray, List.set_cons_zero, List.set_cons_succ]
      refine wpAnyZ_ready (rs := [19]) (by kernel_rfl) (by simp) ?_
      refine (AllReadyZ.cons rfl (fun K hK => ?_) AllReadyZ.nil)
      go_simp
      refine hK.out _ _ (fun h => absurd (by simp) h) ?_
      clear hK K
      try simp only [Act.put, List.getElem_toArray, List.getElem_cons_succ, List.getElem_cons_zero, List.setIfInBounds_toArray, List.set_cons_zero, List.set_cons_succ]
      refine wpAnyZ_done (by kernel_rfl) ?_ _
      refine NoPanic.normal ?_
      clear hH
      go_wp2
      go_ret
      have hr : r < w1.heap.size := H1.out.head.lt
      have hlen : (tdel id L).length = n - 1 := by
        rw [tdel_at HL.out.rises HX.out.2.1, List.length_append, List.length_take, List.length_drop, HN.out]
        have := HX.out.2.2.2
        omega
      have hfl : flatR (tdel id L) = (flatR L).take (i * 2) ++ (flatR L).drop ((i + 1) * 2) := by rw [tdel_at HL.out.rises HX.out.2.1, flatR_append, flatR_take, flatR_drop]
      refine ⟨.slice A2 (n - 1) c2, by rw [askE_some HL.out HX.out.2.2.1]; simp, ⟨HRB.out.put 0 _, ?_⟩, ?_, fun k hk => Or.inr (Nat.le_trans HX.out.1.size (HO.out.2.2.lt k hk).1)⟩
      · rw [hlen, hfl]
        refine ownsRow_setCell_other (own_less HO.out.2.2 (Nat.le_trans HBB.out HX.out.1.size)) (fun e => ?_) _
        have := (HO.out.2.2.lt r e).1
        simp at this
        omega
      · exact ((Fr.of_new (S := fun k => k = r) HX.out.1).trans (Fr.of_new HBB2.out)).setCell (p := ⟨r, 0, none⟩) (fun _ => rfl) _
  · rw [decide_eq_false hm] at MAY
    have HMM := Lib.hid hm
    clear hm
    go_enter Tryd.func25, Tryd.ntmps25
    go_wp2_with fail
    with_reducible refine (MAY.out _).mono ?_
    rintro e wx ⟨rfl, rfl⟩
    go_wp2
    go_ret
    have hn : tget id L = none := tget_none.2 fun p hp e => HMM.out (e ▸ HL.out.ids p hp)
    refine ⟨v, by rw [askE_not HMM.out]; simp, ?_, Fr.refl _ _, fun k hk => Or.inl hk⟩
    rw [tdel_none hn]
    exact H.out

set_option maxHeartbeats 8000000 in
theorem ref_put (r B : Nat) (v : Value) (L : TRow) (id x : Int) (w : World) (h : RowAt w r B v L) (hB : B ≤ w.heap.size) (hL : TOk L) (S : Nat → Prop) (hS : ∀ k, v.ownBlock = some k → S k) (hSr : S r) :
    Calls Tryd.prog 23 #[.pointer (some ⟨r, 0, none⟩), .int .i64 id, .int .u64 x] w fun e w' => ∃ v', e = .returned (.int .i64 (askE L id false)) ∧ RowAt w' r B v' (tput id x L) ∧ Fr S w w' ∧ ∀ k, v'.ownBlock = some k → S k ∨ w.heap.size ≤ k := by
  have H := Lib.hid h
  have HL := Lib.hid hL
  have HBB := Lib.hid hB
  have HS := Lib.hid hS
  have HSr := Lib.hid hSr
  clear h hL hB hS hSr
  have MAY := Lib.hid (fun w => ref_may id w)
  by_cases hm : 1 ≤ id ∧ id ≤ 65535
  · rw [decide_eq_true hm] at MAY
    have HMM := Lib.hid hm
    clear hm
    go_enter Tryd.func23, Tryd.ntmps23
    go_wp2_with fail
    with_reducible refine (MAY.out _).mono ?_
    rintro e wx ⟨rfl, rfl⟩
    go_wp2_with fail
    with_reducible refine (ref_at r B v L id w H.out HL.out.rises HL.out.few).mono ?_
    rintro e w1 ⟨hb1, k, rfl, hk⟩
    rcases hk with ⟨hn, rfl⟩ | ⟨i, y, rfl, hq, hx⟩
    · have HX := Lib.hid (And.intro hb1 hn)
      have H1 := Lib.hid (H.out.next hb1)
      obtain ⟨A, c, rfl, hlc, -⟩ := H.out.form
      obtain ⟨n, hln⟩ : ∃ n, L.length = n := ⟨_, rfl⟩
      have HN := Lib.hid hln
      have hfew := HL.out.few
      rw [hln] at hfew hlc H1 HS
      have cH := H1.out.head.get 0 rfl
      clear hb1 hn
      go_wp2
      go_loopg [7] n (fun gk ix wr => ix = .int .i64 (gk : Int) ∧ gk ≤ n ∧ wr = w1 ∧ ∀ j, (hj : j < L.length) → gk ≤ j → id < (L[j]).1)
      case atStart => exact ⟨by first | rfl | (congr 1), Nat.le_refl _, rfl, fun j hj hnj => by omega⟩
      case round =>
        obtain ⟨rfl, hgn, rfl, hab⟩ := hrel
        have HAB := Lib.hid hab
        clear hab
        have hc : (∃ m y, gk = m + 1 ∧ ∃ z, L[m]? = some (y, z) ∧ id < y) ∨ gk = 0 ∨ (∃ m y, gk = m + 1 ∧ ∃ z, L[m]? = some (y, z) ∧ y ≤ id) := by
          rcases Nat.eq_zero_or_pos gk with h | h
          · exact Or.inr (Or.inl h)
          · obtain ⟨y, z, q1, -⟩ := row_lookup (L := L) (i := gk - 1) (by omega)
            by_cases hy : id < y
            · exact Or.inl ⟨gk - 1, y, by omega, z, q1, hy⟩
            · exact Or.inr (Or.inr ⟨gk - 1, y, by omega, z, q1, by omega⟩)
        rcases hc with ⟨m, y, hgm, z, q1, hy⟩ | h0 | ⟨m, y, hgm, z, q1, hy⟩
        · obtain ⟨g, rfl, hg, ci, -⟩ := H1.out.cells q1
          have d1 : decide ((0 : Int) < (gk : Int)) = true := decide_eq_true (by omega)
          have d2 : decide (id < y) = true := decide_eq_true hy
          have d3 : decide (0 < gk) = true := decide_eq_true (by omega)
          have e5 : wrap64 ((gk : Int) - 1) = (m : Int) := by unfold wrap64; omega
          have p0 : (0 : Int) ≤ (m : Int) := by omega
          have p1 : (m : Int) < (n : Int) := by omega
          have HQ := Lib.hid (And.intro hgm (And.intro q1 hy))
          clear q1 hy hg
          go_wp2
          go_roundg m
          case rel => exact ⟨rfl, by omega, rfl, fun j hj hmj => by
            by_cases hjm : j = m
            · subst hjm
              have := HQ.out.2.1
              rw [List.getElem?_eq_getElem hj] at this
              have e := congrArg Prod.fst (Option.some.inj this)
              simp only at e
              rw [e]
              exact HQ.out.2.2
            · exact HAB.out j hj (by omega)⟩
          case measure => omega
        case' inr.inl =>
          have HP : Hid (∀ j, (hj : j < L.length) → j < gk → (L[j]).1 < id) := fun j hj hjg => absurd hjg (by omega)
          have d1 : decide ((0 : Int) < (gk : Int)) = false := decide_eq_false (by omega)
          have d3 : decide (0 < gk) = false := decide_eq_false (by omega)
          clear h0
          go_upto_region 8 with (fail)
        case' inr.inr =>
          have HP : Hid (∀ j, (hj : j < L.length) → j < gk → (L[j]).1 < id) := fun j hj hjg => by
            have hm' : m < L.length := (List.getElem?_eq_some_iff.1 q1).1
            have e := q1
            rw [List.getElem?_eq_getElem hm'] at e
            have e := congrArg Prod.fst (Option.some.inj e)
            simp only at e
            have hne := tget_none.1 HX.out.2 _ (List.getElem_mem hm')
            rcases Nat.lt_or_ge j m with h | h
            · have := rises_at HL.out.rises hj hm' h
              omega
            · obtain rfl : j = m := by omega
              omega
          obtain ⟨g, hg0, hg, ci, -⟩ := H1.out.cells q1
          have d1 : decide ((0 : Int) < (gk : Int)) = true := decide_eq_true (by omega)
          have d2 : decide (id < y) = false := decide_eq_false (by omega)
          have d3 : decide (0 < gk) = true := decide_eq_true (by omega)
          have e5 : wrap64 ((gk : Int) - 1) = (m : Int) := by unfold wrap64; omega
          have p0 : (0 : Int) ≤ (m : Int) := by omega
          have p1 : (m : Int) < (n : Int) := by omega
          subst hg0
          have ci2 : wr.cell? ⟨g, (gk - 1) * 2, none⟩ = some (.int .i64 y) := by rw [show gk - 1 = m by omega]; exact ci
          have qq1 : (gk : Int) ≤ (n : Int) := by omega
          have qq2 : (0 : Int) ≤ (gk : Int) - 1 := by omega
          have qq3 : (gk : Int) - 1 < (n : Int) := by omega
          clear q1 hy hg hgm
          go_upto_region 8 with (fail)
          clear ci ci2 d1 d2 d3 e5 p0 p1 qq1 qq2 qq3
          generalize hA : (some (⟨g, 0, none⟩ : Addr)) = A at *
          clear hA
        all_goals
          obtain ⟨A', hA'⟩ : ∃ z, (if c = gk then A else A.map (·.add (gk * 2))) = z := ⟨_, rfl⟩
          obtain ⟨i0, hi0⟩ := row_info
          have hown := H1.out.own
          rw [HN.out] at hown
          obtain ⟨vr, w2, r1, oR, b2⟩ := hi0.copy_last 48 hown hgn (flatR_one L) (by omega)
          obtain ⟨v1, w3, v2, w4, r2, r3, o4, F4, hb4⟩ := hi0.more 48 (own_next hown b2) hgn (its := [.int .i64 id, .int .u64 x]) rfl oR (fun j hj e => by have := (hown.lt j e).2; have := (oR.lt j hj).1; omega) (fun u hu => by simp at hu; rcases hu with rfl | rfl <;> rfl) (fun u hu => flatR_one L u (List.mem_of_mem_drop hu)) (by omega) (Nat.le_trans HBB.out (Nat.le_trans HX.out.1.size b2.size))
          rw [show gk + 1 + (n - gk) = n + 1 by omega] at o4
          obtain ⟨A2, c2, rfl⟩ := own_slice o4
          rw [hA'] at r1
          have bR4 := (H1.out.head.next b2).fr F4 (fun e => H1.out.apart e rfl)
          have cB := bR4.get 0 rfl
          have fB := bR4.frozen 0
          have cH2 := (H1.out.head.next b2).get 0 rfl
          have rlt : r < wr.heap.size := H1.out.head.lt
          have rlt2 : r < w2.heap.size := (H1.out.head.next b2).lt
          have HR1 := Lib.hid r1
          have HR2 := Lib.hid r2
          have HR3 := Lib.hid r3
          have HO := Lib.hid (And.intro b2 (And.intro o4 (And.intro F4 (And.intro hb4 bR4))))
          have HA2 := Lib.hid hA'
          have q0 : (0 : Int) ≤ (gk : Int) := by omega
          have q1 : (gk : Int) ≤ (n : Int) := by omega
          have q2 : (n : Int) ≤ (c : Int) := by omega
          have q3 : (gk : Int) ≤ (c : Int) := by omega
          clear r1 r2 r3 b2 o4 F4 hb4 bR4 oR hown hi0
          go_wp2_with (at_builtin; first | (refine wpList_append_known rfl (.tmp 38) (.tmp 44) 48 rfl _ _ _ rfl rfl HR1.out ?_) | (refine wpList_append_known rfl (.tmp 52) (.tmp 56) 48 rfl _ _ _ rfl rfl HR2.out ?_) | (refine wpList_append_known rfl (.tmp 57) (.tmp 58) 48 rfl _ _ _ rfl rfl HR3.out ?_))
          go_ret
          have hp : tput id x L = L.take gk ++ (id, x) :: L.drop gk := by
            unfold tput
            rw [if_pos ⟨HMM.out.1, HMM.out.2, HX.out.2⟩]
            exact tins_at gk (by rw [HN.out]; exact hgn) HP.out HAB.out
          have hlen : (tput id x L).length = n + 1 := by rw [hp, List.length_append, List.length_cons, List.length_take, List.length_drop, HN.out]; omega
          have hfl : flatR (tput id x L) = (flatR L).take (gk * 2) ++ [.int .i64 id, .int .u64 x] ++ (flatR L).drop (gk * 2) := by
            rw [hp, flatR_append, flatR_take, flatR_drop, List.append_assoc]
            rfl
          have hwr : r < wr.heap.size := H1.out.head.lt
          refine ⟨.slice A2 (n + 1) c2, by rw [askE_free HMM.out.1 HMM.out.2 HX.out.2]; simp, ⟨HO.out.2.2.2.2.put 0 _, ?_⟩, ?_, fun k hk => ?_⟩
          · rw [hlen, hfl]
            refine ownsRow_setCell_other HO.out.2.1 (fun e => ?_) _
            rcases HO.out.2.2.2.1 r e with h | h
            · exact H1.out.apart h rfl
            · have := HO.out.1.size
              omega
          · exact (((Fr.of_new HX.out.1).next HO.out.1).trans (HO.out.2.2.1.mono (fun k _ hk => HS.out k hk))).setCell (p := ⟨r, 0, none⟩) (fun _ => HSr.out) _
          · rcases HO.out.2.2.2.1 k hk with h | h
            · exact Or.inl (HS.out k h)
            · exact Or.inr (Nat.le_trans HX.out.1.size (Nat.le_trans HO.out.1.size h))
    · have HX := Lib.hid (And.intro hb1 hx)
      have d1 : decide ((0 : Int) ≤ (i : Int)) = true := decide_eq_true (by omega)
      clear hb1 hq hx
      go_wp2
      go_ret
      have hp : tput id x L = L := by unfold tput; rw [if_neg (fun h => by rw [HX.out.2] at h; exact absurd h.2.2 (by simp))]
      refine ⟨v, by rw [askE_some HL.out HX.out.2]; simp, ?_, Fr.of_new HX.out.1, fun k hk => Or.inl (HS.out k hk)⟩
      rw [hp]
      exact H.out.next HX.out.1
  · rw [decide_eq_false hm] at MAY
    have HMM := Lib.hid hm
    clear hm
    go_enter Tryd.func23, Tryd.ntmps23
    go_wp2_with fail
    with_reducible refine (MAY.out _).mono ?_
    rintro e wx ⟨rfl, rfl⟩
    go_wp2
    go_ret
    have hp : tput id x L = L := by unfold tput; rw [if_neg (fun h => HMM.out ⟨h.1, h.2.1⟩)]
    refine ⟨v, by rw [askE_not HMM.out]; simp, ?_, Fr.refl _ _, fun k hk => Or.inl (HS.out k hk)⟩
    rw [hp]
    exact H.out

end Go.Proofs.YtddehgcdflfonaaDoor
