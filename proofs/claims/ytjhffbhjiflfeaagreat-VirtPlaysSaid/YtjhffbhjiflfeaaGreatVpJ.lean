/-
  The document's family: who wakes.
-/
import Derived.Test.YtjhffbhjiflfeaaGreatVpH
import Derived.Test.YtjhffbhjiflfeaaGreatVpG
namespace Go.Proofs.YtjhffbhjiflfeaaGreat
set_option linter.unusedVariables false
set_option linter.unusedSimpArgs false
set_option maxRecDepth 100000
open Go.RowKit Go.Shelf

set_option maxHeartbeats 4000000 in
theorem d_wake_same (B f : Nat) (k : Int) (vL : Value) (Ds : List DM) (id : Int) (w : World) (h : FamD w B f k vL Ds) (hf : Ds.length ≤ 65535) (hu : ∀ d, dfnd id Ds = some d → d.up = true) :
    Calls Tryz.prog 14 #[.pointer (some ⟨f, 0, none⟩), .int .i64 id] w fun e w' => e = .returned (.tuple #[]) ∧ w = w' := by
  have AT := Lib.hid (d_at B f k vL Ds id w h hf)
  have H := Lib.hid h
  obtain ⟨A, c, rfl, hlc, hcm, hcells⟩ := h.form
  have HC := Lib.hid hcells
  have c0 := h.blk.get 0 rfl
  obtain ⟨l, hl⟩ : ∃ l, Ds.length = l := ⟨_, rfl⟩
  have HLL := Lib.hid hl
  rw [hl] at c0 hlc hf
  have HU := Lib.hid hu
  clear h hcells hcm hu hl
  go_enter Tryz.func14, Tryz.ntmps14
  go_wp2_with fail
  with_reducible refine (AT.out).mono ?_
  rintro e w1 ⟨rfl, q, rfl, hk⟩
  rcases hk with ⟨rfl, hn⟩ | ⟨i, d, rfl, hi⟩
  · clear hn
    go_wp2_with fail
    first | (refine bodyPost_ret (results_none rfl _ _ _) rfl ?_) | go_end0
    exact ⟨rfl, rfl⟩
  · have e1 := HU.out d (hi.fnd H.out.ids)
    obtain ⟨g, rfl, hg1, hg2, -, -, -, -, -, c4⟩ := HC.out i d hi.1
    have p0 : (0 : Int) ≤ (i : Int) := by omega
    have p1 : (i : Int) < (l : Int) := by have := atIs_pos hi; have := HLL.out; omega
    have d1 : decide ((i : Int) < 0) = false := decide_eq_false (by omega)
    rw [e1] at c4
    clear e1 hi hg1 hg2
    go_wp2_with fail
    first | (refine bodyPost_ret (results_none rfl _ _ _) rfl ?_) | go_end0
    exact ⟨rfl, rfl⟩

/-- Who has woken. -/
def wokeD (d : DM) (V : Int) (vx vy : Value) : DM := { d with v := V, up := true, vx := vx, vy := vy, A := d.A ++ [newC d.A V d.T] }
def wokeS (d : DM) (V : Int) (vx vy : Value) : DM := { d with v := V, vx := vx, vy := vy, A := d.A ++ [newC d.A V d.T] }
theorem half_quo {a b : Int} (ha : 0 ≤ a ∧ a ≤ 9223372036854775808) (hb : 0 ≤ b ∧ b ≤ 9223372036854775808) : 0 ≤ a / 2 + b / 2 + (a % 2 + b % 2) / 2 ∧ a / 2 + b / 2 + (a % 2 + b % 2) / 2 ≤ 9223372036854775808 := by omega

set_option maxHeartbeats 16000000 in
theorem d_wake (B f : Nat) (k V : Int) (vL : Value) (Ds : List DM) (d : DM) (id : Int) (w : World) (h : FamD w B f k vL Ds) (hB : B ≤ w.heap.size) (hf : Ds.length ≤ 65535) (hd : dfnd id Ds = some d) (hu : d.up = false)
    (hV : ∀ E, DIds Ds E → startE k E d.v = V) (hv : ∀ d ∈ Ds, 0 ≤ d.v ∧ d.v ≤ 9223372036854775808) (hk : 0 ≤ k ∧ k ≤ 9223372036854775808) (hT : Word d.T) (hn : d.A.length ≤ 1000000) :
    Calls Tryz.prog 14 #[.pointer (some ⟨f, 0, none⟩), .int .i64 id] w fun e w' => e = .returned (.tuple #[]) ∧ ∃ i vx' vy', AtIs id Ds i d ∧ FamD w' B f (max k V) vL (Ds.set i (wokeD d V vx' vy')) ∧ DFr B w w' := by
  have AT := Lib.hid (d_at B f k vL Ds id w h hf)
  have ID := Lib.hid (d_ids B f k vL Ds w h hf)
  have H := Lib.hid (And.intro h hB)
  have HID := Lib.hid hd
  have HV := Lib.hid (And.intro hV (And.intro hv (And.intro hk (And.intro hT (And.intro hn hu)))))
  obtain ⟨A, c, rfl, hlc, hcm, hcells⟩ := h.form
  have HC := Lib.hid hcells
  have c0 := h.blk.get 0 rfl
  have c1 := h.blk.get 1 rfl
  obtain ⟨l, hl⟩ : ∃ l, Ds.length = l := ⟨_, rfl⟩
  have HLL := Lib.hid hl
  rw [hl] at c0 hlc hf
  clear h hB hcells hcm hl hV hv hT hn hd
  go_enter Tryz.func14, Tryz.ntmps14
  go_wp2_with fail
  with_reducible refine (AT.out).mono ?_
  rintro e w1 ⟨rfl, q, rfl, hk2⟩
  rcases hk2 with ⟨rfl, hn⟩ | ⟨i, d0, rfl, hi⟩
  · rw [HID.out] at hn
    cases hn
  · obtain rfl : d = d0 := by
      have := hi.fnd H.out.1.ids
      rw [HID.out] at this
      cases this
      rfl
    obtain ⟨b, rfl, hg1, hg2, ⟨cs, hcs⟩, -, -, z2, z3, z4⟩ := HC.out i d hi.1
    rw [hu] at z4
    have p0 : (0 : Int) ≤ (i : Int) := by omega
    have p1 : (i : Int) < (l : Int) := by have := atIs_pos hi; have := HLL.out; omega
    have d1 : decide ((i : Int) < 0) = false := decide_eq_false (by omega)
    have HI := Lib.hid hi
    have HZ2 := Lib.hid (And.intro c0 z2)
    clear hi hg1 z2 z3 hcs
    go_wp2_with fail
    with_reducible refine (ID.out).mono ?_
    rintro e wi ⟨v, E, rfl, hE, hown, hb1⟩
    obtain ⟨Ao, co, rfl, hco, hrow⟩ := row_form hown
    obtain ⟨m, hm⟩ : ∃ m, E.length = m := ⟨_, rfl⟩
    have HE := Lib.hid (And.intro hE (And.intro hown hb1))
    have HROW := Lib.hid hrow
    have HM := Lib.hid hm
    rw [hm] at hco ⊢
    clear hE hown hrow hb1 hm z4
    have HHB := Lib.hid (And.intro hk hg2)
    have VV := Lib.hid (fun w' (hb : Below wi.heap.size wi w') id v (hv : dV id Ds = v) => (d_v B f k _ Ds id v w' ((H.out.1.next HE.out.2.2).next hb) (by rw [HLL.out]; exact hf) hv).mono (R' := fun e w'' => e = .returned (.int .u64 v) ∧ Below w'.heap.size w' w'') (by rintro e w'' ⟨rfl, rfl⟩; exact ⟨rfl, Below.refl _ _⟩))
    have c0 := (HE.out.2.2.cell (p := ⟨f, 0, none⟩) H.out.1.blk.lt).trans HZ2.out.1
    have m0 : (0 : Int) ≤ (m : Int) := by omega
    have mle : m ≤ l := by
      have h1 := HE.out.1.1.length_eq
      have h2 : (upsD Ds).length ≤ Ds.length := List.length_filter_le _ _
      have := HLL.out
      have := HM.out
      omega
    obtain ⟨bb, hbb⟩ : ∃ bb : Bool, decide ((0 : Int) < (m : Int)) = bb := ⟨_, rfl⟩
    go_upto_if 32 with (fail)
    have HBB := Lib.hid hbb
    clear hbb c1 hk hg2
    go_cut [5] (fun v5 wc => ∃ hf : Int, v5 = .int .u64 hf ∧ max hf d.v = V ∧ 0 ≤ hf ∧ hf ≤ 9223372036854775808 ∧ Below wi.heap.size wi wc)
    case first =>
      cases bb with
      | false =>
        have hm0 : m = 0 := by have := of_decide_eq_false HBB.out; omega
        go_wp2_with fail
        go_meet
        refine ⟨k, rfl, ?_, HHB.out.1.1, HHB.out.1.2, Below.refl _ _⟩
        have h1 := HV.out.1 E HE.out.1
        have h2 := HM.out
        rw [hm0] at h2
        have hE0 := List.length_eq_zero_iff.1 h2
        rw [hE0] at h1
        exact h1
      | true =>
        have hm1 : 0 < m := by have := of_decide_eq_true HBB.out; omega
        obtain ⟨gO, cs', rfl, hgO, hbO, hcs'⟩ := HROW.out (by rw [HM.out]; exact hm1)
        obtain ⟨a, ha⟩ : ∃ a, E[0]? = some a := ⟨E[0]'(by rw [HM.out]; exact hm1), List.getElem?_eq_getElem _⟩
        obtain ⟨b2, hb2⟩ : ∃ a, E[m - 1]? = some a := ⟨E[m - 1]'(by rw [HM.out]; omega), List.getElem?_eq_getElem _⟩
        have hcell : ∀ (j : Nat) (e : DM), E[j]? = some e → wi.cell? ⟨gO, j, none⟩ = some (.int .i64 e.id) := fun j e he => by
          have h1 : (E.map didVal)[j]? = some (didVal e) := by rw [List.getElem?_map, he]; rfl
          exact hbO.get j (hcs' j _ h1)
        have hmem : ∀ (j : Nat) (e : DM), E[j]? = some e → e ∈ Ds := fun j e he => (List.mem_filter.1 (HE.out.1.1.subset (List.mem_of_getElem? he))).1
        have ca := hcell 0 a ha
        have cb := hcell (m - 1) b2 hb2
        have VA := Lib.hid (fun w' hb => VV.out w' hb a.id a.v (dV_mem H.out.1.ids (hmem 0 a ha)))
        have VB := Lib.hid (fun w' hb => VV.out w' hb b2.id b2.v (dV_mem H.out.1.ids (hmem _ b2 hb2)))
        have hba := HV.out.2.1 a (hmem 0 a ha)
        have hbb := HV.out.2.1 b2 (hmem _ b2 hb2)
        have hst : max (a.v / 2 + b2.v / 2 + (a.v % 2 + b2.v % 2) / 2) d.v = V := by
          have h1 := HV.out.1 E HE.out.1
          unfold startE at h1
          rw [HM.out, ha, hb2] at h1
          exact h1
        obtain ⟨av, eav⟩ : ∃ z, a.v = z := ⟨_, rfl⟩
        obtain ⟨bv, ebv⟩ : ∃ z, b2.v = z := ⟨_, rfl⟩
        obtain ⟨aid, eaid⟩ : ∃ z, a.id = z := ⟨_, rfl⟩
        obtain ⟨bid, ebid⟩ : ∃ z, b2.id = z := ⟨_, rfl⟩
        rw [eav, eaid] at VA
        rw [ebv, ebid] at VB
        rw [eaid] at ca
        rw [ebid] at cb
        rw [eav] at hba hst
        rw [ebv] at hbb hst
        have HST := Lib.hid (And.intro hst (And.intro hba hbb))
        have HKO := Lib.hid (And.intro ca (And.intro cb hbO.lt))
        have e7 : wrap64 ((m : Int) - 1) = ((m - 1 : Nat) : Int) := by unfold wrap64; omega
        have e7b : IntKind.i64.wrap ((m : Int) - 1) = ((m - 1 : Nat) : Int) := by rw [IntKind.wrap_i64]; omega
        have e8 : (0 : Int) < (m : Int) := by omega
        have e9 : ((m - 1 : Nat) : Int) < (m : Int) := by omega
        have e10 : (0 : Int) ≤ ((m - 1 : Nat) : Int) := by omega
        have g1 : IntKind.u64.wrap (av.tdiv 2) = av / 2 := by rw [Int.tdiv_eq_ediv_of_nonneg hba.1, IntKind.wrap_u64]; omega
        have g2 : IntKind.u64.wrap (bv.tdiv 2) = bv / 2 := by rw [Int.tdiv_eq_ediv_of_nonneg hbb.1, IntKind.wrap_u64]; omega
        have g3 : IntKind.u64.wrap (av / 2 + bv / 2) = av / 2 + bv / 2 := by rw [IntKind.wrap_u64]; omega
        have g4 : av.tmod 2 = av % 2 := Int.tmod_eq_emod_of_nonneg hba.1
        have g5 : bv.tmod 2 = bv % 2 := Int.tmod_eq_emod_of_nonneg hbb.1
        have HG := Lib.hid (And.intro g1 (And.intro g2 (And.intro g3 (And.intro g4 g5))))
        have HH := half_quo hba hbb
        obtain ⟨hh, ehh⟩ : ∃ z, av / 2 + bv / 2 + (av % 2 + bv % 2) / 2 = z := ⟨_, rfl⟩
        rw [ehh] at hst HH
        have HHH := Lib.hid (And.intro hst HH)
        have HEH := Lib.hid ehh
        clear ha hb2 hcell hmem ca cb hba hbb hst eav ebv eaid ebid hgO hbO hcs' HH g1 g2 g3 g4 g5 ehh c0
        have KP : Hid (∀ w', Below (wi.heap.size) wi w' → (w'.cell? ⟨gO, 0, none⟩ = some (.int .i64 aid) ∧ w'.cell? ⟨gO, m - 1, none⟩ = some (.int .i64 bid)) ∧ Below (wi.heap.size) wi w') := fun w' hb => ⟨⟨((hb.cell (p := ⟨gO, 0, none⟩) HKO.out.2.2).trans HKO.out.1), ((hb.cell (p := ⟨gO, m - 1, none⟩) HKO.out.2.2).trans HKO.out.2.1)⟩, hb⟩
        go_upto_region 5 with (fail)
        refine wp_region_noPanic ?_
        refine wp_region_held_drew (S := fun w' => (w'.cell? ⟨gO, 0, none⟩ = some (.int .i64 aid) ∧ w'.cell? ⟨gO, m - 1, none⟩ = some (.int .i64 bid)) ∧ Below (wi.heap.size) wi w') (by kernel_rfl) (KP.out _ (below_of_drew ((Below.refl wi.heap.size wi)))) (fun hH => ?_)
        have hbR := below_of_drew ((Below.refl wi.heap.size wi))
        first | (refine wpAnyH_take (i := 0) (v := undef) rfl ?_ ?_ ?_ (fun _ _ _ h => h) ?_ ?_ ?_; kernel_rfl; kernel_rfl; kernel_rfl; exact Or.inr ⟨by rfl, rfl⟩; exact hH) | (refine wpAnyH_take (i := 0) (v := ?_) rfl ?_ ?_ ?_ (fun _ _ _ h => h) ?_ ?_ ?_; rotate_left; kernel_rfl; kernel_rfl; kernel_rfl; (focus (refine Or.inl ⟨by rfl, ?_⟩; intro w' hSw; (try dsimp only at hSw); go_simp)); exact hH) | (refine wpAnyH_take (i := 0) (v := ?_) rfl ?_ ?_ ?_ (fun _ _ _ h => h) ?_ ?_ ?_; rotate_left; kernel_rfl; kernel_rfl; kernel_rfl; (focus (refine Or.inl ⟨by rfl, ?_⟩; intro w' hSw; (try dsimp only at hSw); go_simp; with_reducible rfl)); exact hH)
        try simp only [Act.put, List.getElem_toArray, List.getElem_cons_succ, List.getElem_cons_zero, List.setIfInBounds_toArray, List.set_cons_zero, List.set_cons_succ]
        first | (refine wpAnyH_take (i := 1) (v := undef) rfl ?_ ?_ ?_ (fun _ _ _ h => h) ?_ ?_ ?_; kernel_rfl; kernel_rfl; kernel_rfl; exact Or.inr ⟨by rfl, rfl⟩; exact hH) | (refine wpAnyH_take (i := 1) (v := ?_) rfl ?_ ?_ ?_ (fun _ _ _ h => h) ?_ ?_ ?_; rotate_left; kernel_rfl; kernel_rfl; kernel_rfl; (focus (refine Or.inl ⟨by rfl, ?_⟩; intro w' hSw; (try dsimp only at hSw); go_simp)); exact hH) | (refine wpAnyH_take (i := 1) (v := ?_) rfl ?_ ?_ ?_ (fun _ _ _ h => h) ?_ ?_ ?_; rotate_left; kernel_rfl; kernel_rfl; kernel_rfl; (focus (refine Or.inl ⟨by rfl, ?_⟩; intro w' hSw; (try dsimp only at hSw); go_simp; with_reducible rfl)); exact hH)
        try simp only [Act.put, List.getElem_toArray, List.getElem_cons_succ, List.getElem_cons_zero, List.setIfInBounds_toArray, List.set_cons_zero, List.set_cons_succ]
        first | (refine wpAnyH_take (i := 2) (v := undef) rfl ?_ ?_ ?_ (fun _ _ _ h => h) ?_ ?_ ?_; kernel_rfl; kernel_rfl; kernel_rfl; exact Or.inr ⟨by rfl, rfl⟩; exact hH) | (refine wpAnyH_take (i := 2) (v := ?_) rfl ?_ ?_ ?_ (fun _ _ _ h => h) ?_ ?_ ?_; rotate_left; kernel_rfl; kernel_rfl; kernel_rfl; (focus (refine Or.inl ⟨by rfl, ?_⟩; intro w' hSw; (try dsimp only at hSw); go_simp)); exact hH) | (refine wpAnyH_take (i := 2) (v := ?_) rfl ?_ ?_ ?_ (fun _ _ _ h => h) ?_ ?_ ?_; rotate_left; kernel_rfl; kernel_rfl; kernel_rfl; (focus (refine Or.inl ⟨by rfl, ?_⟩; intro w' hSw; (try dsimp only at hSw); go_simp; with_reducible rfl)); exact hH)
        try simp only [Act.put, List.getElem_toArray, List.getElem_cons_succ, List.getElem_cons_zero, List.setIfInBounds_toArray, List.set_cons_zero, List.set_cons_succ]
        first | (refine wpAnyH_take (i := 3) (v := undef) rfl ?_ ?_ ?_ (fun _ _ _ h => h) ?_ ?_ ?_; kernel_rfl; kernel_rfl; kernel_rfl; exact Or.inr ⟨by rfl, rfl⟩; exact hH) | (refine wpAnyH_take (i := 3) (v := ?_) rfl ?_ ?_ ?_ (fun _ _ _ h => h) ?_ ?_ ?_; rotate_left; kernel_rfl; kernel_rfl; kernel_rfl; (focus (refine Or.inl ⟨by rfl, ?_⟩; intro w' hSw; (try dsimp only at hSw); go_simp)); exact hH) | (refine wpAnyH_take (i := 3) (v := ?_) rfl ?_ ?_ ?_ (fun _ _ _ h => h) ?_ ?_ ?_; rotate_left; kernel_rfl; kernel_rfl; kernel_rfl; (focus (refine Or.inl ⟨by rfl, ?_⟩; intro w' hSw; (try dsimp only at hSw); go_simp; with_reducible rfl)); exact hH)
        try simp only [Act.put, List.getElem_toArray, List.getElem_cons_succ, List.getElem_cons_zero, List.setIfInBounds_toArray, List.set_cons_zero, List.set_cons_succ]
        first | (refine wpAnyH_take (i := 5) (v := undef) rfl ?_ ?_ ?_ (fun _ _ _ h => h) ?_ ?_ ?_; kernel_rfl; kernel_rfl; kernel_rfl; exact Or.inr ⟨by rfl, rfl⟩; exact hH) | (refine wpAnyH_take (i := 5) (v := ?_) rfl ?_ ?_ ?_ (fun _ _ _ h => h) ?_ ?_ ?_; rotate_left; kernel_rfl; kernel_rfl; kernel_rfl; (focus (refine Or.inl ⟨by rfl, ?_⟩; intro w' hSw; (try dsimp only at hSw); go_simp)); exact hH) | (refine wpAnyH_take (i := 5) (v := ?_) rfl ?_ ?_ ?_ (fun _ _ _ h => h) ?_ ?_ ?_; rotate_left; kernel_rfl; kernel_rfl; kernel_rfl; (focus (refine Or.inl ⟨by rfl, ?_⟩; intro w' hSw; (try dsimp only at hSw); go_simp; with_reducible rfl)); exact hH)
        try simp only [Act.put, List.getElem_toArray, List.getElem_cons_succ, List.getElem_cons_zero, List.setIfInBounds_toArray, List.set_cons_zero, List.set_cons_succ]
        first | (refine wpAnyH_take (i := 6) (v := undef) rfl ?_ ?_ ?_ (fun _ _ _ h => h) ?_ ?_ ?_; kernel_rfl; kernel_rfl; kernel_rfl; exact Or.inr ⟨by rfl, rfl⟩; exact hH) | (refine wpAnyH_take (i := 6) (v := ?_) rfl ?_ ?_ ?_ (fun _ _ _ h => h) ?_ ?_ ?_; rotate_left; kernel_rfl; kernel_rfl; kernel_rfl; (focus (refine Or.inl ⟨by rfl, ?_⟩; intro w' hSw; (try dsimp only at hSw); go_simp)); exact hH) | (refine wpAnyH_take (i := 6) (v := ?_) rfl ?_ ?_ ?_ (fun _ _ _ h => h) ?_ ?_ ?_; rotate_left; kernel_rfl; kernel_rfl; kernel_rfl; (focus (refine Or.inl ⟨by rfl, ?_⟩; intro w' hSw; (try dsimp only at hSw); go_simp; with_reducible rfl)); exact hH)
        try simp only [Act.put, List.getElem_toArray, List.getElem_cons_succ, List.getElem_cons_zero, List.setIfInBounds_toArray, List.set_cons_zero, List.set_cons_succ]
        first | (refine wpAnyH_take (i := 7) (v := undef) rfl ?_ ?_ ?_ (fun _ _ _ h => h) ?_ ?_ ?_; kernel_rfl; kernel_rfl; kernel_rfl; exact Or.inr ⟨by rfl, rfl⟩; exact hH) | (refine wpAnyH_take (i := 7) (v := ?_) rfl ?_ ?_ ?_ (fun _ _ _ h => h) ?_ ?_ ?_; rotate_left; kernel_rfl; kernel_rfl; kernel_rfl; (focus (refine Or.inl ⟨by rfl, ?_⟩; intro w' hSw; (try dsimp only at hSw); go_simp)); exact hH) | (refine wpAnyH_take (i := 7) (v := ?_) rfl ?_ ?_ ?_ (fun _ _ _ h => h) ?_ ?_ ?_; rotate_left; kernel_rfl; kernel_rfl; kernel_rfl; (focus (refine Or.inl ⟨by rfl, ?_⟩; intro w' hSw; (try dsimp only at hSw); go_simp; with_reducible rfl)); exact hH)
        try simp only [Act.put, List.getElem_toArray, List.getElem_cons_succ, List.getElem_cons_zero, List.setIfInBounds_toArray, List.set_cons_zero, List.set_cons_succ]
        first | (refine wpAnyH_take (i := 8) (v := undef) rfl ?_ ?_ ?_ (fun _ _ _ h => h) ?_ ?_ ?_; kernel_rfl; kernel_rfl; kernel_rfl; exact Or.inr ⟨by rfl, rfl⟩; exact hH) | (refine wpAnyH_take (i := 8) (v := ?_) rfl ?_ ?_ ?_ (fun _ _ _ h => h) ?_ ?_ ?_; rotate_left; kernel_rfl; kernel_rfl; kernel_rfl; (focus (refine Or.inl ⟨by rfl, ?_⟩; intro w' hSw; (try dsimp only at hSw); go_simp)); exact hH) | (refine wpAnyH_take (i := 8) (v := ?_) rfl ?_ ?_ ?_ (fun _ _ _ h => h) ?_ ?_ ?_; rotate_left; kernel_rfl; kernel_rfl; kernel_rfl; (focus (refine Or.inl ⟨by rfl, ?_⟩; intro w' hSw; (try dsimp only at hSw); go_simp; with_reducible rfl)); exact hH)
        try simp only [Act.put, List.getElem_toArray, List.getElem_cons_succ, List.getElem_cons_zero, List.setIfInBounds_toArray, List.set_cons_zero, List.set_cons_succ]
        first | (refine wpAnyH_take (i := 9) (v := undef) rfl ?_ ?_ ?_ (fun _ _ _ h => h) ?_ ?_ ?_; kernel_rfl; kernel_rfl; kernel_rfl; exact Or.inr ⟨by rfl, rfl⟩; exact hH) | (refine wpAnyH_take (i := 9) (v := ?_) rfl ?_ ?_ ?_ (fun _ _ _ h => h) ?_ ?_ ?_; rotate_left; kernel_rfl; kernel_rfl; kernel_rfl; (focus (refine Or.inl ⟨by rfl, ?_⟩; intro w' hSw; (try dsimp only at hSw); go_simp)); exact hH) | (refine wpAnyH_take (i := 9) (v := ?_) rfl ?_ ?_ ?_ (fun _ _ _ h => h) ?_ ?_ ?_; rotate_left; kernel_rfl; kernel_rfl; kernel_rfl; (focus (refine Or.inl ⟨by rfl, ?_⟩; intro w' hSw; (try dsimp only at hSw); go_simp; with_reducible rfl)); exact hH)
        try simp only [Act.put, List.getElem_toArray, List.getElem_cons_succ, List.getElem_cons_zero, List.setIfInBounds_toArray, List.set_cons_zero, List.set_cons_succ]
        first | (refine wpAnyH_take (i := 10) (v := undef) rfl ?_ ?_ ?_ (fun _ _ _ h => h) ?_ ?_ ?_; kernel_rfl; kernel_rfl; kernel_rfl; exact Or.inr ⟨by rfl, rfl⟩; exact hH) | (refine wpAnyH_take (i := 10) (v := ?_) rfl ?_ ?_ ?_ (fun _ _ _ h => h) ?_ ?_ ?_; rotate_left; kernel_rfl; kernel_rfl; kernel_rfl; (focus (refine Or.inl ⟨by rfl, ?_⟩; intro w' hSw; (try dsimp only at hSw); go_simp)); exact hH) | (refine wpAnyH_take (i := 10) (v := ?_) rfl ?_ ?_ ?_ (fun _ _ _ h => h) ?_ ?_ ?_; rotate_left; kernel_rfl; kernel_rfl; kernel_rfl; (focus (refine Or.inl ⟨by rfl, ?_⟩; intro w' hSw; (try dsimp only at hSw); go_simp; with_reducible rfl)); exact hH)
        try simp only [Act.put, List.getElem_toArray, List.getElem_cons_succ, List.getElem_cons_zero, List.setIfInBounds_toArray, List.set_cons_zero, List.set_cons_succ]
        first | (refine wpAnyH_take (i := 11) (v := undef) rfl ?_ ?_ ?_ (fun _ _ _ h => h) ?_ ?_ ?_; kernel_rfl; kernel_rfl; kernel_rfl; exact Or.inr ⟨by rfl, rfl⟩; exact hH) | (refine wpAnyH_take (i := 11) (v := ?_) rfl ?_ ?_ ?_ (fun _ _ _ h => h) ?_ ?_ ?_; rotate_left; kernel_rfl; kernel_rfl; kernel_rfl; (focus (refine Or.inl ⟨by rfl, ?_⟩; intro w' hSw; (try dsimp only at hSw); go_simp)); exact hH) | (refine wpAnyH_take (i := 11) (v := ?_) rfl ?_ ?_ ?_ (fun _ _ _ h => h) ?_ ?_ ?_; rotate_left; kernel_rfl; kernel_rfl; kernel_rfl; (focus (refine Or.inl ⟨by rfl, ?_⟩; intro w' hSw; (try dsimp only at hSw); go_simp; with_reducible rfl)); exact hH)
        try simp only [Act.put, List.getElem_toArray, List.getElem_cons_succ, List.getElem_cons_zero, List.setIfInBounds_toArray, List.set_cons_zero, List.set_cons_succ]
        refine wpAnyH_ready (rs := [4]) (by kernel_rfl) (by simp) ?_
        refine (AllReadyH.cons rfl (fun K hK => ?_) AllReadyH.nil)
        go_simp
        with_reducible refine (VA.out _ hH.2).mono ?_
        rintro e w1 ⟨rfl, hb1'⟩
        have hb1 : Below (wi.heap.size) wi w1 := below_next hH.2 hb1'
        try go_wp2_with fail
        refine hK.out _ _ (KP.out _ hb1) (fun hH1 => ?_)
        clear hK K hH
        have hH := hH1
        clear hH1
        try simp only [Act.put, List.getElem_toArray, List.getElem_cons_succ, List.getElem_cons_zero, List.setIfInBounds_toArray, List.set_cons_zero, List.set_cons_succ]
        refine wpAnyH_ready (rs := [12]) (by kernel_rfl) (by simp) ?_
        refine (AllReadyH.cons rfl (fun K hK => ?_) AllReadyH.nil)
        go_simp
        with_reducible refine (VB.out _ hH.2).mono ?_
        rintro e w2 ⟨rfl, hb2'⟩
        have hb2 : Below (wi.heap.size) wi w2 := below_next hH.2 hb2'
        try go_wp2_with fail
        refine hK.out _ _ (KP.out _ hb2) (fun hH2 => ?_)
        clear hK K hH
        have hH := hH2
        clear hH2
        try simp only [Act.put, List.getElem_toArray, List.getElem_cons_succ, List.getElem_cons_zero, List.setIfInBounds_toArray, List.set_cons_zero, List.set_cons_succ]
        first | (refine wpAnyH_take (i := 13) (v := undef) rfl ?_ ?_ ?_ (fun _ _ _ h => h) ?_ ?_ ?_; kernel_rfl; kernel_rfl; kernel_rfl; exact Or.inr ⟨by rfl, rfl⟩; exact hH) | (refine wpAnyH_take (i := 13) (v := ?_) rfl ?_ ?_ ?_ (fun _ _ _ h => h) ?_ ?_ ?_; rotate_left; kernel_rfl; kernel_rfl; kernel_rfl; (focus (refine Or.inl ⟨by rfl, ?_⟩; intro w' hSw; (try dsimp only at hSw); go_simp)); exact hH) | (refine wpAnyH_take (i := 13) (v := ?_) rfl ?_ ?_ ?_ (fun _ _ _ h => h) ?_ ?_ ?_; rotate_left; kernel_rfl; kernel_rfl; kernel_rfl; (focus (refine Or.inl ⟨by rfl, ?_⟩; intro w' hSw; (try dsimp only at hSw); go_simp; with_reducible rfl)); exact hH)
        try simp only [Act.put, List.getElem_toArray, List.getElem_cons_succ, List.getElem_cons_zero, List.setIfInBounds_toArray, List.set_cons_zero, List.set_cons_succ]
        first | (refine wpAnyH_take (i := 14) (v := undef) rfl ?_ ?_ ?_ (fun _ _ _ h => h) ?_ ?_ ?_; kernel_rfl; kernel_rfl; kernel_rfl; exact Or.inr ⟨by rfl, rfl⟩; exact hH) | (refine wpAnyH_take (i := 14) (v := ?_) rfl ?_ ?_ ?_ (fun _ _ _ h => h) ?_ ?_ ?_; rotate_left; kernel_rfl; kernel_rfl; kernel_rfl; (focus (refine Or.inl ⟨by rfl, ?_⟩; intro w' hSw; (try dsimp only at hSw); go_simp)); exact hH) | (refine wpAnyH_take (i := 14) (v := ?_) rfl ?_ ?_ ?_ (fun _ _ _ h => h) ?_ ?_ ?_; rotate_left; kernel_rfl; kernel_rfl; kernel_rfl; (focus (refine Or.inl ⟨by rfl, ?_⟩; intro w' hSw; (try dsimp only at hSw); go_simp; with_reducible rfl)); exact hH)
        try simp only [Act.put, List.getElem_toArray, List.getElem_cons_succ, List.getElem_cons_zero, List.setIfInBounds_toArray, List.set_cons_zero, List.set_cons_succ]
        refine wpAnyH_done (by kernel_rfl) ?_ _
        refine NoPanic.normal ?_
        clear hH
        have hbG := hb2
        go_wp2_with fail
        go_meet
        refine ⟨hh, ?_, HHH.out.1, HHH.out.2.1, HHH.out.2.2, hbG⟩
        clear HC HROW HE HKO VA VB VV KP
        have b1 := HST.out.2.1
        have b2 := HST.out.2.2
        have b3 := HHH.out.2
        have k1 : IntKind.u64.wrap (av % 2 + bv % 2) = av % 2 + bv % 2 := by rw [IntKind.wrap_u64]; omega
        have k2 : IntKind.u64.wrap ((av % 2 + bv % 2) / 2) = (av % 2 + bv % 2) / 2 := by rw [IntKind.wrap_u64]; omega
        have k3 : IntKind.u64.wrap hh = hh := by rw [IntKind.wrap_u64]; omega
        rw [HG.out.1, HG.out.2.1, HG.out.2.2.1, HG.out.2.2.2.1, HG.out.2.2.2.2, k1, Int.tdiv_eq_ediv_of_nonneg (by omega), k2, HEH.out, k3]
    case rest =>
      obtain ⟨h5, rfl, hmx, hb50, hb51, hbc⟩ := hcut
      obtain ⟨wd, rfl⟩ : ∃ x : World, x = wc := ⟨_, rfl⟩
      have hwd := below_next HE.out.2.2 hbc
      have hfw : FamD wd B f k (.slice (some ⟨b, 0, none⟩) l c) Ds := by have := H.out.1.next hwd; rw [HLL.out] at this; exact this
      have c0 := hfw.blk.get 0 rfl
      have z2 := (hwd.cell (p := ⟨b, i * 5 + 2, none⟩) HHB.out.2).trans HZ2.out.2
      obtain ⟨dv, edv⟩ : ∃ z, d.v = z := ⟨_, rfl⟩
      rw [edv] at z2 hmx
      have HFW := Lib.hid (And.intro hfw (And.intro hwd (And.intro hmx edv)))
      have HH5 := Lib.hid (And.intro hb50 hb51)
      clear hfw hwd hbc hmx edv hb50 hb51
      obtain ⟨bb2, hbb2⟩ : ∃ bb : Bool, decide (h5 < dv) = bb := ⟨_, rfl⟩
      go_upto_if 67 with (fail)
      have HBB2 := Lib.hid hbb2
      clear hbb2
      go_cut [5] (fun v5 wc => v5 = .int .u64 V ∧ wd = wc)
      case first =>
        cases bb2 with
        | true =>
          have e5 : V = dv := by have := of_decide_eq_true HBB2.out; have := HFW.out.2.2.1; omega
          go_wp2_with fail
          go_meet
          exact ⟨by rw [e5], rfl⟩
        | false =>
          have e5 : V = h5 := by have := of_decide_eq_false HBB2.out; have := HFW.out.2.2.1; omega
          go_wp2_with fail
          go_meet
          exact ⟨by rw [e5], rfl⟩
      case rest =>
        obtain ⟨rfl, rfl⟩ := hcut
        have SE := Lib.hid (d_set B f k _ Ds i d (i : Int) V wd HFW.out.1 (by rw [HLL.out]; exact hf) HI.out.1 rfl)
        clear c0 z2
        go_wp2_with fail
        with_reducible refine (SE.out).mono ?_
        rintro e wz ⟨rfl, hfz, hdz⟩
        have hi1 : (Ds.set i { d with v := V })[i]? = some { d with v := V } := by rw [List.getElem?_set_self (atIs_pos HI.out)]
        obtain ⟨A', c', eA, -, -, hc'⟩ := hfz.form
        obtain ⟨b', eb, -, hbl, -, -, z1, -, z3, -⟩ := hc' i _ hi1
        obtain rfl : b = b' := by
          rw [eb] at eA
          injection eA with eA
          injection eA with eA
          injection eA
        have z1 : wz.cell? ⟨b, i * 5 + 1, none⟩ = some (.int .u64 d.T) := z1
        have z3 : wz.cell? ⟨b, i * 5 + 3, none⟩ = some (.pointer (some ⟨d.r, 0, none⟩)) := z3
        obtain ⟨D1, eD1⟩ : ∃ z, Ds.set i { d with v := V } = z := ⟨_, rfl⟩
        rw [eD1] at hfz hi1
        have HFZ := Lib.hid (And.intro hfz (And.intro hdz (And.intro hbl (And.intro z1 (And.intro z3 hi1)))))
        have HD1 := Lib.hid eD1
        have wV : Word V := by have h1 := HFW.out.2.2.1; have h2 := HH5.out; have h3 := HV.out.2.1 d (List.mem_of_getElem? HI.out.1); rw [HFW.out.2.2.2] at h3; exact ⟨by omega, by omega⟩
        have ST := Lib.hid (fun w' (hb : Below wz.heap.size wz w') => rn_start B d.r d.F d.L d.R d.vx d.vy d.A V d.T w' ((HFZ.out.1.mem _ (List.mem_of_getElem? HFZ.out.2.2.2.2.2)).next hb) (by have h1 := H.out.2; have h2 := HFW.out.2.1.size; have h3 := Fr.size HFZ.out.2.1; have h4 := hb.size; omega) HV.out.2.2.2.2.1 wV HV.out.2.2.2.1)
        clear eA eb hfz hdz hbl hi1 hc' z1 z3 eD1 SE wV
        have KP : Hid (∀ w', Below (wz.heap.size) wz w' → (w'.cell? ⟨f, 0, none⟩ = some (.slice (some ⟨b, 0, none⟩) l c) ∧ w'.cell? ⟨b, i * 5 + 3, none⟩ = some (.pointer (some ⟨d.r, 0, none⟩)) ∧ w'.cell? ⟨b, i * 5 + 1, none⟩ = some (.int .u64 d.T)) ∧ Below (wz.heap.size) wz w') := fun w' hb => ⟨⟨((HFZ.out.1.blk.next hb).get 0 rfl), ((hb.cell (p := ⟨b, i * 5 + 3, none⟩) HFZ.out.2.2.1).trans HFZ.out.2.2.2.2.1), ((hb.cell (p := ⟨b, i * 5 + 1, none⟩) HFZ.out.2.2.1).trans HFZ.out.2.2.2.1)⟩, hb⟩
        go_upto_region 10 with (fail)
        refine wp_region_noPanic ?_
        refine wp_region_Z [17] (fun w' => (w'.cell? ⟨f, 0, none⟩ = some (.slice (some ⟨b, 0, none⟩) l c) ∧ w'.cell? ⟨b, i * 5 + 3, none⟩ = some (.pointer (some ⟨d.r, 0, none⟩)) ∧ w'.cell? ⟨b, i * 5 + 1, none⟩ = some (.int .u64 d.T)) ∧ Below (wz.heap.size) wz w') (by kernel_rfl) (KP.out _ (below_of_drew ((Below.refl wz.heap.size wz)))) (fun hH => ?_)
        have hbR := below_of_drew ((Below.refl wz.heap.size wz))
        first | (refine wpAnyZ_takeC (i := 0) (v := undef) rfl ?_ ?_ ?_ ?_ (fun _ _ _ h => h) ?_ ?_ ?_; kernel_rfl; kernel_rfl; kernel_rfl; kernel_rfl; exact Or.inr ⟨by rfl, rfl⟩; exact hH) | (refine wpAnyZ_takeC (i := 0) (v := ?_) rfl ?_ ?_ ?_ ?_ (fun _ _ _ h => h) ?_ ?_ ?_; rotate_left; kernel_rfl; kernel_rfl; kernel_rfl; kernel_rfl; (focus (refine Or.inl ⟨by rfl, ?_⟩; intro w' hSw; (try dsimp only at hSw); go_simp)); exact hH) | (refine wpAnyZ_takeC (i := 0) (v := ?_) rfl ?_ ?_ ?_ ?_ (fun _ _ _ h => h) ?_ ?_ ?_; rotate_left; kernel_rfl; kernel_rfl; kernel_rfl; kernel_rfl; (focus (refine Or.inl ⟨by rfl, ?_⟩; intro w' hSw; (try dsimp only at hSw); go_simp; with_reducible rfl)); exact hH)
        try simp only [Act.put, List.getElem_toArray, List.getElem_cons_succ, List.getElem_cons_zero, List.setIfInBounds_toArray, List.set_cons_zero, List.set_cons_succ]
        first | (refine wpAnyZ_takeC (i := 1) (v := undef) rfl ?_ ?_ ?_ ?_ (fun _ _ _ h => h) ?_ ?_ ?_; kernel_rfl; kernel_rfl; kernel_rfl; kernel_rfl; exact Or.inr ⟨by rfl, rfl⟩; exact hH) | (refine wpAnyZ_takeC (i := 1) (v := ?_) rfl ?_ ?_ ?_ ?_ (fun _ _ _ h => h) ?_ ?_ ?_; rotate_left; kernel_rfl; kernel_rfl; kernel_rfl; kernel_rfl; (focus (refine Or.inl ⟨by rfl, ?_⟩; intro w' hSw; (try dsimp only at hSw); go_simp)); exact hH) | (refine wpAnyZ_takeC (i := 1) (v := ?_) rfl ?_ ?_ ?_ ?_ (fun _ _ _ h => h) ?_ ?_ ?_; rotate_left; kernel_rfl; kernel_rfl; kernel_rfl; kernel_rfl; (focus (refine Or.inl ⟨by rfl, ?_⟩; intro w' hSw; (try dsimp only at hSw); go_simp; with_reducible rfl)); exact hH)
        try simp only [Act.put, List.getElem_toArray, List.getElem_cons_succ, List.getElem_cons_zero, List.setIfInBounds_toArray, List.set_cons_zero, List.set_cons_succ]
        first | (refine wpAnyZ_takeC (i := 2) (v := undef) rfl ?_ ?_ ?_ ?_ (fun _ _ _ h => h) ?_ ?_ ?_; kernel_rfl; kernel_rfl; kernel_rfl; kernel_rfl; exact Or.inr ⟨by rfl, rfl⟩; exact hH) | (refine wpAnyZ_takeC (i := 2) (v := ?_) rfl ?_ ?_ ?_ ?_ (fun _ _ _ h => h) ?_ ?_ ?_; rotate_left; kernel_rfl; kernel_rfl; kernel_rfl; kernel_rfl; (focus (refine Or.inl ⟨by rfl, ?_⟩; intro w' hSw; (try dsimp only at hSw); go_simp)); exact hH) | (refine wpAnyZ_takeC (i := 2) (v := ?_) rfl ?_ ?_ ?_ ?_ (fun _ _ _ h => h) ?_ ?_ ?_; rotate_left; kernel_rfl; kernel_rfl; kernel_rfl; kernel_rfl; (focus (refine Or.inl ⟨by rfl, ?_⟩; intro w' hSw; (try dsimp only at hSw); go_simp; with_reducible rfl)); exact hH)
        try simp only [Act.put, List.getElem_toArray, List.getElem_cons_succ, List.getElem_cons_zero, List.setIfInBounds_toArray, List.set_cons_zero, List.set_cons_succ]
        first | (refine wpAnyZ_takeC (i := 3) (v := undef) rfl ?_ ?_ ?_ ?_ (fun _ _ _ h => h) ?_ ?_ ?_; kernel_rfl; kernel_rfl; kernel_rfl; kernel_rfl; exact Or.inr ⟨by rfl, rfl⟩; exact hH) | (refine wpAnyZ_takeC (i := 3) (v := ?_) rfl ?_ ?_ ?_ ?_ (fun _ _ _ h => h) ?_ ?_ ?_; rotate_left; kernel_rfl; kernel_rfl; kernel_rfl; kernel_rfl; (focus (refine Or.inl ⟨by rfl, ?_⟩; intro w' hSw; (try dsimp only at hSw); go_simp)); exact hH) | (refine wpAnyZ_takeC (i := 3) (v := ?_) rfl ?_ ?_ ?_ ?_ (fun _ _ _ h => h) ?_ ?_ ?_; rotate_left; kernel_rfl; kernel_rfl; kernel_rfl; kernel_rfl; (focus (refine Or.inl ⟨by rfl, ?_⟩; intro w' hSw; (try dsimp only at hSw); go_simp; with_reducible rfl)); exact hH)
        try simp only [Act.put, List.getElem_toArray, List.getElem_cons_succ, List.getElem_cons_zero, List.setIfInBounds_toArray, List.set_cons_zero, List.set_cons_succ]
        first | (refine wpAnyZ_takeC (i := 4) (v := undef) rfl ?_ ?_ ?_ ?_ (fun _ _ _ h => h) ?_ ?_ ?_; kernel_rfl; kernel_rfl; kernel_rfl; kernel_rfl; exact Or.inr ⟨by rfl, rfl⟩; exact hH) | (refine wpAnyZ_takeC (i := 4) (v := ?_) rfl ?_ ?_ ?_ ?_ (fun _ _ _ h => h) ?_ ?_ ?_; rotate_left; kernel_rfl; kernel_rfl; kernel_rfl; kernel_rfl; (focus (refine Or.inl ⟨by rfl, ?_⟩; intro w' hSw; (try dsimp only at hSw); go_simp)); exact hH) | (refine wpAnyZ_takeC (i := 4) (v := ?_) rfl ?_ ?_ ?_ ?_ (fun _ _ _ h => h) ?_ ?_ ?_; rotate_left; kernel_rfl; kernel_rfl; kernel_rfl; kernel_rfl; (focus (refine Or.inl ⟨by rfl, ?_⟩; intro w' hSw; (try dsimp only at hSw); go_simp; with_reducible rfl)); exact hH)
        try simp only [Act.put, List.getElem_toArray, List.getElem_cons_succ, List.getElem_cons_zero, List.setIfInBounds_toArray, List.set_cons_zero, List.set_cons_succ]
        first | (refine wpAnyZ_takeC (i := 5) (v := undef) rfl ?_ ?_ ?_ ?_ (fun _ _ _ h => h) ?_ ?_ ?_; kernel_rfl; kernel_rfl; kernel_rfl; kernel_rfl; exact Or.inr ⟨by rfl, rfl⟩; exact hH) | (refine wpAnyZ_takeC (i := 5) (v := ?_) rfl ?_ ?_ ?_ ?_ (fun _ _ _ h => h) ?_ ?_ ?_; rotate_left; kernel_rfl; kernel_rfl; kernel_rfl; kernel_rfl; (focus (refine Or.inl ⟨by rfl, ?_⟩; intro w' hSw; (try dsimp only at hSw); go_simp)); exact hH) | (refine wpAnyZ_takeC (i := 5) (v := ?_) rfl ?_ ?_ ?_ ?_ (fun _ _ _ h => h) ?_ ?_ ?_; rotate_left; kernel_rfl; kernel_rfl; kernel_rfl; kernel_rfl; (focus (refine Or.inl ⟨by rfl, ?_⟩; intro w' hSw; (try dsimp only at hSw); go_simp; with_reducible rfl)); exact hH)
        try simp only [Act.put, List.getElem_toArray, List.getElem_cons_succ, List.getElem_cons_zero, List.setIfInBounds_toArray, List.set_cons_zero, List.set_cons_succ]
        first | (refine wpAnyZ_takeC (i := 6) (v := undef) rfl ?_ ?_ ?_ ?_ (fun _ _ _ h => h) ?_ ?_ ?_; kernel_rfl; kernel_rfl; kernel_rfl; kernel_rfl; exact Or.inr ⟨by rfl, rfl⟩; exact hH) | (refine wpAnyZ_takeC (i := 6) (v := ?_) rfl ?_ ?_ ?_ ?_ (fun _ _ _ h => h) ?_ ?_ ?_; rotate_left; kernel_rfl; kernel_rfl; kernel_rfl; kernel_rfl; (focus (refine Or.inl ⟨by rfl, ?_⟩; intro w' hSw; (try dsimp only at hSw); go_simp)); exact hH) | (refine wpAnyZ_takeC (i := 6) (v := ?_) rfl ?_ ?_ ?_ ?_ (fun _ _ _ h => h) ?_ ?_ ?_; rotate_left; kernel_rfl; kernel_rfl; kernel_rfl; kernel_rfl; (focus (refine Or.inl ⟨by rfl, ?_⟩; intro w' hSw; (try dsimp only at hSw); go_simp; with_reducible rfl)); exact hH)
        try simp only [Act.put, List.getElem_toArray, List.getElem_cons_succ, List.getElem_cons_zero, List.setIfInBounds_toArray, List.set_cons_zero, List.set_cons_succ]
        first | (refine wpAnyZ_takeC (i := 7) (v := undef) rfl ?_ ?_ ?_ ?_ (fun _ _ _ h => h) ?_ ?_ ?_; kernel_rfl; kernel_rfl; kernel_rfl; kernel_rfl; exact Or.inr ⟨by rfl, rfl⟩; exact hH) | (refine wpAnyZ_takeC (i := 7) (v := ?_) rfl ?_ ?_ ?_ ?_ (fun _ _ _ h => h) ?_ ?_ ?_; rotate_left; kernel_rfl; kernel_rfl; kernel_rfl; kernel_rfl; (focus (refine Or.inl ⟨by rfl, ?_⟩; intro w' hSw; (try dsimp only at hSw); go_simp)); exact hH) | (refine wpAnyZ_takeC (i := 7) (v := ?_) rfl ?_ ?_ ?_ ?_ (fun _ _ _ h => h) ?_ ?_ ?_; rotate_left; kernel_rfl; kernel_rfl; kernel_rfl; kernel_rfl; (focus (refine Or.inl ⟨by rfl, ?_⟩; intro w' hSw; (try dsimp only at hSw); go_simp; with_reducible rfl)); exact hH)
        try simp only [Act.put, List.getElem_toArray, List.getElem_cons_succ, List.getElem_cons_zero, List.setIfInBounds_toArray, List.set_cons_zero, List.set_cons_succ]
        first | (refine wpAnyZ_takeC (i := 8) (v := undef) rfl ?_ ?_ ?_ ?_ (fun _ _ _ h => h) ?_ ?_ ?_; kernel_rfl; kernel_rfl; kernel_rfl; kernel_rfl; exact Or.inr ⟨by rfl, rfl⟩; exact hH) | (refine wpAnyZ_takeC (i := 8) (v := ?_) rfl ?_ ?_ ?_ ?_ (fun _ _ _ h => h) ?_ ?_ ?_; rotate_left; kernel_rfl; kernel_rfl; kernel_rfl; kernel_rfl; (focus (refine Or.inl ⟨by rfl, ?_⟩; intro w' hSw; (try dsimp only at hSw); go_simp)); exact hH) | (refine wpAnyZ_takeC (i := 8) (v := ?_) rfl ?_ ?_ ?_ ?_ (fun _ _ _ h => h) ?_ ?_ ?_; rotate_left; kernel_rfl; kernel_rfl; kernel_rfl; kernel_rfl; (focus (refine Or.inl ⟨by rfl, ?_⟩; intro w' hSw; (try dsimp only at hSw); go_simp; with_reducible rfl)); exact hH)
        try simp only [Act.put, List.getElem_toArray, List.getElem_cons_succ, List.getElem_cons_zero, List.setIfInBounds_toArray, List.set_cons_zero, List.set_cons_succ]
        first | (refine wpAnyZ_takeC (i := 9) (v := undef) rfl ?_ ?_ ?_ ?_ (fun _ _ _ h => h) ?_ ?_ ?_; kernel_rfl; kernel_rfl; kernel_rfl; kernel_rfl; exact Or.inr ⟨by rfl, rfl⟩; exact hH) | (refine wpAnyZ_takeC (i := 9) (v := ?_) rfl ?_ ?_ ?_ ?_ (fun _ _ _ h => h) ?_ ?_ ?_; rotate_left; kernel_rfl; kernel_rfl; kernel_rfl; kernel_rfl; (focus (refine Or.inl ⟨by rfl, ?_⟩; intro w' hSw; (try dsimp only at hSw); go_simp)); exact hH) | (refine wpAnyZ_takeC (i := 9) (v := ?_) rfl ?_ ?_ ?_ ?_ (fun _ _ _ h => h) ?_ ?_ ?_; rotate_left; kernel_rfl; kernel_rfl; kernel_rfl; kernel_rfl; (focus (refine Or.inl ⟨by rfl, ?_⟩; intro w' hSw; (try dsimp only at hSw); go_simp; with_reducible rfl)); exact hH)
        try simp only [Act.put, List.getElem_toArray, List.getElem_cons_succ, List.getElem_cons_zero, List.setIfInBounds_toArray, List.set_cons_zero, List.set_cons_succ]
        first | (refine wpAnyZ_takeC (i := 10) (v := undef) rfl ?_ ?_ ?_ ?_ (fun _ _ _ h => h) ?_ ?_ ?_; kernel_rfl; kernel_rfl; kernel_rfl; kernel_rfl; exact Or.inr ⟨by rfl, rfl⟩; exact hH) | (refine wpAnyZ_takeC (i := 10) (v := ?_) rfl ?_ ?_ ?_ ?_ (fun _ _ _ h => h) ?_ ?_ ?_; rotate_left; kernel_rfl; kernel_rfl; kernel_rfl; kernel_rfl; (focus (refine Or.inl ⟨by rfl, ?_⟩; intro w' hSw; (try dsimp only at hSw); go_simp)); exact hH) | (refine wpAnyZ_takeC (i := 10) (v := ?_) rfl ?_ ?_ ?_ ?_ (fun _ _ _ h => h) ?_ ?_ ?_; rotate_left; kernel_rfl; kernel_rfl; kernel_rfl; kernel_rfl; (focus (refine Or.inl ⟨by rfl, ?_⟩; intro w' hSw; (try dsimp only at hSw); go_simp; with_reducible rfl)); exact hH)
        try simp only [Act.put, List.getElem_toArray, List.getElem_cons_succ, List.getElem_cons_zero, List.setIfInBounds_toArray, List.set_cons_zero, List.set_cons_succ]
        first | (refine wpAnyZ_takeC (i := 11) (v := undef) rfl ?_ ?_ ?_ ?_ (fun _ _ _ h => h) ?_ ?_ ?_; kernel_rfl; kernel_rfl; kernel_rfl; kernel_rfl; exact Or.inr ⟨by rfl, rfl⟩; exact hH) | (refine wpAnyZ_takeC (i := 11) (v := ?_) rfl ?_ ?_ ?_ ?_ (fun _ _ _ h => h) ?_ ?_ ?_; rotate_left; kernel_rfl; kernel_rfl; kernel_rfl; kernel_rfl; (focus (refine Or.inl ⟨by rfl, ?_⟩; intro w' hSw; (try dsimp only at hSw); go_simp)); exact hH) | (refine wpAnyZ_takeC (i := 11) (v := ?_) rfl ?_ ?_ ?_ ?_ (fun _ _ _ h => h) ?_ ?_ ?_; rotate_left; kernel_rfl; kernel_rfl; kernel_rfl; kernel_rfl; (focus (refine Or.inl ⟨by rfl, ?_⟩; intro w' hSw; (try dsimp only at hSw); go_simp; with_reducible rfl)); exact hH)
        try simp only [Act.put, List.getElem_toArray, List.getElem_cons_succ, List.getElem_cons_zero, List.setIfInBounds_toArray, List.set_cons_zero, List.set_cons_succ]
        first | (refine wpAnyZ_takeC (i := 12) (v := undef) rfl ?_ ?_ ?_ ?_ (fun _ _ _ h => h) ?_ ?_ ?_; kernel_rfl; kernel_rfl; kernel_rfl; kernel_rfl; exact Or.inr ⟨by rfl, rfl⟩; exact hH) | (refine wpAnyZ_takeC (i := 12) (v := ?_) rfl ?_ ?_ ?_ ?_ (fun _ _ _ h => h) ?_ ?_ ?_; rotate_left; kernel_rfl; kernel_rfl; kernel_rfl; kernel_rfl; (focus (refine Or.inl ⟨by rfl, ?_⟩; intro w' hSw; (try dsimp only at hSw); go_simp)); exact hH) | (refine wpAnyZ_takeC (i := 12) (v := ?_) rfl ?_ ?_ ?_ ?_ (fun _ _ _ h => h) ?_ ?_ ?_; rotate_left; kernel_rfl; kernel_rfl; kernel_rfl; kernel_rfl; (focus (refine Or.inl ⟨by rfl, ?_⟩; intro w' hSw; (try dsimp only at hSw); go_simp; with_reducible rfl)); exact hH)
        try simp only [Act.put, List.getElem_toArray, List.getElem_cons_succ, List.getElem_cons_zero, List.setIfInBounds_toArray, List.set_cons_zero, List.set_cons_succ]
        first | (refine wpAnyZ_takeC (i := 13) (v := undef) rfl ?_ ?_ ?_ ?_ (fun _ _ _ h => h) ?_ ?_ ?_; kernel_rfl; kernel_rfl; kernel_rfl; kernel_rfl; exact Or.inr ⟨by rfl, rfl⟩; exact hH) | (refine wpAnyZ_takeC (i := 13) (v := ?_) rfl ?_ ?_ ?_ ?_ (fun _ _ _ h => h) ?_ ?_ ?_; rotate_left; kernel_rfl; kernel_rfl; kernel_rfl; kernel_rfl; (focus (refine Or.inl ⟨by rfl, ?_⟩; intro w' hSw; (try dsimp only at hSw); go_simp)); exact hH) | (refine wpAnyZ_takeC (i := 13) (v := ?_) rfl ?_ ?_ ?_ ?_ (fun _ _ _ h => h) ?_ ?_ ?_; rotate_left; kernel_rfl; kernel_rfl; kernel_rfl; kernel_rfl; (focus (refine Or.inl ⟨by rfl, ?_⟩; intro w' hSw; (try dsimp only at hSw); go_simp; with_reducible rfl)); exact hH)
        try simp only [Act.put, List.getElem_toArray, List.getElem_cons_succ, List.getElem_cons_zero, List.setIfInBounds_toArray, List.set_cons_zero, List.set_cons_succ]
        first | (refine wpAnyZ_takeC (i := 14) (v := undef) rfl ?_ ?_ ?_ ?_ (fun _ _ _ h => h) ?_ ?_ ?_; kernel_rfl; kernel_rfl; kernel_rfl; kernel_rfl; exact Or.inr ⟨by rfl, rfl⟩; exact hH) | (refine wpAnyZ_takeC (i := 14) (v := ?_) rfl ?_ ?_ ?_ ?_ (fun _ _ _ h => h) ?_ ?_ ?_; rotate_left; kernel_rfl; kernel_rfl; kernel_rfl; kernel_rfl; (focus (refine Or.inl ⟨by rfl, ?_⟩; intro w' hSw; (try dsimp only at hSw); go_simp)); exact hH) | (refine wpAnyZ_takeC (i := 14) (v := ?_) rfl ?_ ?_ ?_ ?_ (fun _ _ _ h => h) ?_ ?_ ?_; rotate_left; kernel_rfl; kernel_rfl; kernel_rfl; kernel_rfl; (focus (refine Or.inl ⟨by rfl, ?_⟩; intro w' hSw; (try dsimp only at hSw); go_simp; with_reducible rfl)); exact hH)
        try simp only [Act.put, List.getElem_toArray, List.getElem_cons_succ, List.getElem_cons_zero, List.setIfInBounds_toArray, List.set_cons_zero, List.set_cons_succ]
        first | (refine wpAnyZ_takeC (i := 15) (v := undef) rfl ?_ ?_ ?_ ?_ (fun _ _ _ h => h) ?_ ?_ ?_; kernel_rfl; kernel_rfl; kernel_rfl; kernel_rfl; exact Or.inr ⟨by rfl, rfl⟩; exact hH) | (refine wpAnyZ_takeC (i := 15) (v := ?_) rfl ?_ ?_ ?_ ?_ (fun _ _ _ h => h) ?_ ?_ ?_; rotate_left; kernel_rfl; kernel_rfl; kernel_rfl; kernel_rfl; (focus (refine Or.inl ⟨by rfl, ?_⟩; intro w' hSw; (try dsimp only at hSw); go_simp)); exact hH) | (refine wpAnyZ_takeC (i := 15) (v := ?_) rfl ?_ ?_ ?_ ?_ (fun _ _ _ h => h) ?_ ?_ ?_; rotate_left; kernel_rfl; kernel_rfl; kernel_rfl; kernel_rfl; (focus (refine Or.inl ⟨by rfl, ?_⟩; intro w' hSw; (try dsimp only at hSw); go_simp; with_reducible rfl)); exact hH)
        try simp only [Act.put, List.getElem_toArray, List.getElem_cons_succ, List.getElem_cons_zero, List.setIfInBounds_toArray, List.set_cons_zero, List.set_cons_succ]
        first | (refine wpAnyZ_takeC (i := 16) (v := undef) rfl ?_ ?_ ?_ ?_ (fun _ _ _ h => h) ?_ ?_ ?_; kernel_rfl; kernel_rfl; kernel_rfl; kernel_rfl; exact Or.inr ⟨by rfl, rfl⟩; exact hH) | (refine wpAnyZ_takeC (i := 16) (v := ?_) rfl ?_ ?_ ?_ ?_ (fun _ _ _ h => h) ?_ ?_ ?_; rotate_left; kernel_rfl; kernel_rfl; kernel_rfl; kernel_rfl; (focus (refine Or.inl ⟨by rfl, ?_⟩; intro w' hSw; (try dsimp only at hSw); go_simp)); exact hH) | (refine wpAnyZ_takeC (i := 16) (v := ?_) rfl ?_ ?_ ?_ ?_ (fun _ _ _ h => h) ?_ ?_ ?_; rotate_left; kernel_rfl; kernel_rfl; kernel_rfl; kernel_rfl; (focus (refine Or.inl ⟨by rfl, ?_⟩; intro w' hSw; (try dsimp only at hSw); go_simp; with_reducible rfl)); exact hH)
        try simp only [Act.put, List.getElem_toArray, List.getElem_cons_succ, List.getElem_cons_zero, List.setIfInBounds_toArray, List.set_cons_zero, List.set_cons_succ]
        refine wpAnyZ_ready (rs := [17]) (by kernel_rfl) (by simp) ?_
        refine (AllReadyZ.cons rfl (fun K hK => ?_) AllReadyZ.nil)
        go_simp
        with_reducible refine (ST.out _ hH.2).mono ?_
        rintro e w1 ⟨rfl, vx', vy', hR, hnew, hfr⟩
        have HG := Lib.hid (And.intro (FamD.started (HFZ.out.1.next hH.2) (d' := wokeS d V vx' vy') HFZ.out.2.2.2.2.2 rfl rfl rfl hR hnew hfr) hH.2)
        clear hR hnew hfr
        refine hK.out _ _ (fun h => absurd (by simp) h) ?_
        clear hK K
        try simp only [Act.put, List.getElem_toArray, List.getElem_cons_succ, List.getElem_cons_zero, List.setIfInBounds_toArray, List.set_cons_zero, List.set_cons_succ]
        refine wpAnyZ_done (by kernel_rfl) ?_ _
        refine NoPanic.normal ?_
        skip
        try clear hH
        have hi2 : (D1.set i (wokeS d V vx' vy'))[i]? = some (wokeS d V vx' vy') := by rw [List.getElem?_set_self (List.getElem?_eq_some_iff.1 HFZ.out.2.2.2.2.2).1]
        obtain ⟨A', c', eA, -, -, hc'⟩ := HG.out.1.1.form
        obtain ⟨b', eb, -, hbl, ⟨cs', hcs'⟩, -, -, -, -, z4⟩ := hc' i _ hi2
        obtain rfl : b = b' := by
          rw [eb] at eA
          injection eA with eA
          injection eA with eA
          injection eA
        have x0 := HG.out.1.1.blk.get 0 rfl
        have f4 := hcs'.frozen (i * 5 + 4)
        have HI2 := Lib.hid hi2
        clear eA eb hbl hcs' hc' hi2 KP ST
        go_wp2_with fail
        try go_end0
        have st := HG.out.1.1.store (j := 4) (d' := wokeD d V vx' vy') (u := .bool true) HI2.out (by decide) rfl rfl rfl (fun h => h)
        have e1 := st.1
        rw [← HD1.out, List.set_set, List.set_set] at e1
        refine ⟨rfl, i, vx', vy', HI.out, by rw [HLL.out]; exact e1, ?_⟩
        exact ((((DFr.of_new HFW.out.2.1).trans HFZ.out.2.1).trans (DFr.of_new HG.out.2)).trans HG.out.1.2).trans st.2

end Go.Proofs.YtjhffbhjiflfeaaGreat

/-!
  Both families: who gains, who wakes, the document's part.
-/
namespace Go.Proofs.YtjhffbhjiflfeaaGreat
set_option linter.unusedVariables false
set_option linter.unusedSimpArgs false
set_option maxRecDepth 100000
open Go.RowKit Go.Shelf

set_option maxHeartbeats 4000000 in
theorem d_gain_none (B f : Nat) (k : Int) (vL : Value) (Ds : List DM) (id g : Int) (w : World) (h : FamD w B f k vL Ds) (hf : Ds.length ≤ 65535) (hd : dfnd id Ds = none) :
    Calls Tryz.prog 18 #[.pointer (some ⟨f, 0, none⟩), .int .i64 id, .int .u64 g] w fun e w' => e = .returned (.tuple #[]) ∧ w = w' := by
  have AT := Lib.hid (d_at B f k vL Ds id w h hf)
  have H := Lib.hid (And.intro h hd)
  clear h hd
  go_enter Tryz.func18, Tryz.ntmps18
  go_wp2_with fail
  with_reducible refine (AT.out).mono ?_
  rintro e w1 ⟨rfl, q, rfl, hk⟩
  rcases hk with ⟨rfl, hn⟩ | ⟨i, d, rfl, hi⟩
  · clear hn
    go_wp2_with fail
    first | (refine bodyPost_ret (results_none rfl _ _ _) rfl ?_) | go_end0
    exact ⟨rfl, rfl⟩
  · have := hi.fnd H.out.1.ids
    rw [H.out.2] at this
    cases this
theorem gT_is (x : Mem) (d : DM) (g : Int) (h : x.T = d.T) : gT d.T g = gainT x g := by unfold gT gainT; omega
section
variable {B : Nat} {w0 w w' : World} {f mb fd : Nat} {vL : Value} {S : FS} {Ds : List DM} {N : Nat}
theorem nobody_of {id : Int} (hf : fnd id S.L = none) (h : Beside S.L Ds) : dfnd id Ds = none := h.nobody hf
theorem p_gain2 (id g : Int) (h : Half2 B w0 w f mb fd vL S (S.gain id g) Ds N) (hN : N ≤ 65535) (hg : Word g) :
    Calls Tryz.prog 18 #[.pointer (some ⟨fd, 0, none⟩), .int .i64 id, .int .u64 g] w fun e w' => e = .returned (.tuple #[]) ∧ (∃ vL' Ds', Two2 B w0 w' f mb fd vL' (S.gain id g) Ds' N) ∧ ActKept w w' := by
  have hfam := h.fam
  have hok := h.ok.gain id hg
  have hlen := h.len
  cases e : fnd id S.L with
  | none =>
    have eS : S.gain id g = S := by unfold FS.gain; rw [e]
    rw [eS] at hfam hok ⊢
    refine (d_gain_none B fd S.k vL Ds id g w h.doc (Nat.le_trans hlen hN) (h.bes.nobody e)).mono ?_
    rintro e w' ⟨rfl, rfl⟩
    exact ⟨rfl, ⟨vL, Ds, hfam, h.doc, hok, h.bes⟩, .refl _⟩
  | some x =>
    obtain ⟨d, hd, hdm, hk, hr⟩ := h.bes.has e
    have hx := h.ok.mem x (fnd_mem e).1
    have hkk := key_eq.1 hk
    have hmany := hr.many
    have hml := hx.many
    refine (d_gain B fd S.k vL Ds 0 d id g x.s w h.doc (Nat.le_trans hlen hN) hd hr hx.ok (by omega) ⟨by rw [← hkk.2.1]; exact hx.t0, by rw [← hkk.2.1]; exact hx.t1⟩ hg).mono ?_
    rintro e' w' ⟨rfl, i, hi, h1, h2⟩
    refine ⟨rfl, ?_, h2.kept⟩
    unfold gainK gainD at h1
    rw [← hkk.2.2.2] at h1
    rcases Bool.eq_false_or_eq_true x.up with hu | hu
    · have eS : S.gain id g = ⟨max S.k (x.s.reach (gainT x g)), setM { x with T := gainT x g, v := x.s.reach (gainT x g) } S.L⟩ := by unfold FS.gain; rw [e]; dsimp only; rw [if_pos hu]
      rw [if_pos hu, if_pos hu, gT_is x d g hkk.2.1] at h1
      rw [eS] at hfam hok ⊢
      exact ⟨vL, _, hfam.doc h2 (Nat.le_refl _), h1, hok, h.bes.set (y := { x with T := gainT x g, v := x.s.reach (gainT x g) }) e hi (fnd_mem e).2 (key_eq.2 ⟨hkk.1, rfl, rfl, rfl⟩) hr⟩
    · have eS : S.gain id g = ⟨S.k, setM { x with T := gainT x g } S.L⟩ := by unfold FS.gain; rw [e]; dsimp only; rw [if_neg (by rw [hu]; decide)]
      rw [if_neg (by rw [hu]; decide), if_neg (by rw [hu]; decide), gT_is x d g hkk.2.1] at h1
      rw [eS] at hfam hok ⊢
      exact ⟨vL, _, hfam.doc h2 (Nat.le_refl _), h1, hok, h.bes.set (y := { x with T := gainT x g }) e hi (fnd_mem e).2 (key_eq.2 ⟨hkk.1, rfl, hkk.2.2.1, rfl⟩) hr⟩
theorem p_wake2 (id : Int) (h : Half2 B w0 w f mb fd vL S (S.wake id) Ds N) (hN : N ≤ 65535) :
    Calls Tryz.prog 14 #[.pointer (some ⟨fd, 0, none⟩), .int .i64 id] w fun e w' => e = .returned (.tuple #[]) ∧ (∃ vL' Ds', Two2 B w0 w' f mb fd vL' (S.wake id) Ds' (N + 1)) ∧ ActKept w w' := by
  have hfam := h.fam
  have hok := h.ok.wake id
  have hlen := h.len
  have stay : S.wake id = S → (∀ d, dfnd id Ds = some d → d.up = true) → Calls Tryz.prog 14 #[.pointer (some ⟨fd, 0, none⟩), .int .i64 id] w fun e w' => e = .returned (.tuple #[]) ∧ (∃ vL' Ds', Two2 B w0 w' f mb fd vL' (S.wake id) Ds' (N + 1)) ∧ ActKept w w' := by
    intro eS hu
    rw [eS] at hfam hok ⊢
    refine (d_wake_same B fd S.k vL Ds id w h.doc (Nat.le_trans hlen hN) hu).mono ?_
    rintro e w' ⟨rfl, rfl⟩
    exact ⟨rfl, ⟨vL, Ds, hfam, h.doc, hok, h.bes⟩, .refl _⟩
  cases e : fnd id S.L with
  | none => exact stay (by unfold FS.wake; rw [e]) (fun d hd => by rw [h.bes.nobody e] at hd; cases hd)
  | some x =>
    obtain ⟨d, hd, hdm, hk, hr⟩ := h.bes.has e
    have hx := h.ok.mem x (fnd_mem e).1
    have hkk := key_eq.1 hk
    have hmany := hr.many
    have hml := hx.many
    rcases Bool.eq_false_or_eq_true x.up with hu | hu
    · refine stay (by unfold FS.wake; rw [e]; dsimp only; rw [if_pos hu]) (fun d' hd' => ?_)
      rw [hd] at hd'
      cases hd'
      rw [← hkk.2.2.2]
      exact hu
    · have eS : S.wake id = ⟨max S.k (startV S.k (ups S.L) x.v), setM (wokenM S.k S.L x) S.L⟩ := by unfold FS.wake; rw [e]; dsimp only; rw [if_neg (by rw [hu]; decide)]
      have hb := startV_bounds h.ok.vok (h.ok.vok x (fnd_mem e).1) ⟨h.ok.k0, h.ok.k1⟩
      refine (d_wake B fd S.k (startV S.k (ups S.L) x.v) vL Ds d id w h.doc h.hB (Nat.le_trans hlen hN) hd (by rw [← hkk.2.2.2]; exact hu) (fun E hE => by rw [← hkk.2.2.1]; exact h.bes.start h.ok.vok hE S.k x.v) (fun d' hd' => ?_) ⟨h.ok.k0, h.ok.k1⟩ ⟨by rw [← hkk.2.1]; exact hx.t0, by rw [← hkk.2.1]; have := hx.t1; omega⟩ (by omega)).mono ?_
      · obtain ⟨y, hy, ey⟩ := h.bes.here hd'
        have := h.ok.vok y hy
        rw [← (key_eq.1 ey).2.2.1]
        exact this
      rintro e' w' ⟨rfl, i, vx', vy', hi, h1, h2⟩
      refine ⟨rfl, ?_, h2.kept⟩
      rw [eS] at hfam hok ⊢
      refine ⟨vL, _, hfam.doc h2 (Nat.le_refl _), h1, hok, h.bes.set (y := wokenM S.k S.L x) e hi (fnd_mem e).2 (key_eq.2 ⟨hkk.1, hkk.2.1, rfl, rfl⟩) ?_⟩
      show RunRel (x.s.start (startV S.k (ups S.L) x.v) x.T) d.F d.L d.R (d.A ++ [newC d.A (startV S.k (ups S.L) x.v) d.T])
      rw [← hkk.2.1]
      exact hr.start hx.t0
end

end Go.Proofs.YtjhffbhjiflfeaaGreat
