/-
  Two rows of ids are the same; both families show the same.
-/
import Derived.Test.YtjhffbhjiflfeaaGreatVpH
import Derived.Test.YtjhffbhjiflfeaaGreatVpG
import Derived.Test.YtjhffbhjiflfeaaGreatVpJ
namespace Go.Proofs.YtjhffbhjiflfeaaGreat
set_option linter.unusedVariables false
set_option linter.unusedSimpArgs false
set_option maxRecDepth 100000
open Go.RowKit Go.Shelf

def iVal (x : Int) : Value := .int .i64 x
set_option maxHeartbeats 4000000 in
theorem rsame_any (B B' n : Nat) (v v' : Value) (I : List Int) (w : World) (h : w.ownsRow B 3 1 v n (I.map iVal)) (h' : w.ownsRow B' 3 1 v' n (I.map iVal)) (hn : I.length = n) (hle : n ≤ 65535) :
    Calls Tryz.prog 48 #[v, v'] w fun e w' => e = .returned (.bool true) ∧ Below w.heap.size w w' := by
  obtain ⟨A, c, rfl, hc, hrow⟩ := row_form h
  obtain ⟨A', c', rfl, hc', hrow'⟩ := row_form h'
  have HR := Lib.hid (And.intro hrow hrow')
  have HN := Lib.hid hn
  clear h h' hrow hrow' hn
  go_enter Tryz.func48, Tryz.ntmps48
  go_wp2_with fail
  go_loopg [5] n (fun gk ix wr => ∃ j : Nat, j + gk = n ∧ ix = .int .i64 (j : Int) ∧ Below w.heap.size w wr)
  case atStart => exact ⟨0, by omega, rfl, Below.refl _ _⟩
  case round =>
    obtain ⟨j, hj, rfl, hbw⟩ := hrel
    have HBW := Lib.hid hbw
    clear hbw
    by_cases hlt : j < n
    · obtain ⟨gm, rfl⟩ : ∃ gm, gk = gm + 1 := ⟨gk - 1, by omega⟩
      obtain ⟨x, hx⟩ : ∃ x, I[j]? = some x := ⟨I[j]'(by rw [HN.out]; exact hlt), List.getElem?_eq_getElem _⟩
      obtain ⟨g, cs, rfl, -, hb, hcs⟩ := HR.out.1 (by omega)
      obtain ⟨g', cs', rfl, -, hb', hcs'⟩ := HR.out.2 (by omega)
      have e1 : (I.map iVal)[j]? = some (iVal x) := by rw [List.getElem?_map, hx]; rfl
      have c1 : wr.cell? ⟨g, j, none⟩ = some (.int .i64 x) := (hb.next HBW.out).get j (hcs j _ e1)
      have c2 : wr.cell? ⟨g', j, none⟩ = some (.int .i64 x) := (hb'.next HBW.out).get j (hcs' j _ e1)
      have p0 : (0 : Int) ≤ (j : Int) := by omega
      have p1 : (j : Int) < (n : Int) := by omega
      have e5 : wrap64 ((j : Int) + 1) = ((j + 1 : Nat) : Int) := by unfold wrap64; omega
      clear hx hb hb' hcs hcs' e1
      go_upto_region 6 with (fail)
      go_quiet (fail)
      go_wp2
      go_roundg gm
      case rel => exact ⟨j + 1, by omega, by go_num, below_next HBW.out (below_drewN' (Below.refl _ _) _)⟩
      case measure => omega
    · obtain rfl : gk = 0 := by omega
      obtain rfl : j = n := by omega
      go_wp2_with fail
      go_ret
      exact ⟨by simp, HBW.out⟩

theorem dT_mem {Ds : List DM} {e : DM} (hn : (Ds.map (·.id)).Nodup) (he : e ∈ Ds) : dT e.id Ds = e.T := by unfold dT; rw [dfnd_of_mem hn he]
theorem dU_mem {Ds : List DM} {e : DM} (hn : (Ds.map (·.id)).Nodup) (he : e ∈ Ds) : dU e.id Ds = e.up := by unfold dU; rw [dfnd_of_mem hn he]
theorem id_vals (L : List Mem) : L.map idVal = (L.map (·.id)).map iVal := by rw [List.map_map]; rfl
theorem did_vals (E : List DM) : E.map didVal = (E.map (·.id)).map iVal := by rw [List.map_map]; rfl
theorem Beside.same_ids {Ms : List Mem} {Ds : List DM} (h : Beside Ms Ds) {L : List Mem} {E : List DM} (hL : IdsOf Ms L) (hE : DIds Ds E) : L.map (·.id) = E.map (·.id) := by
  have := congrArg (List.map (fun k : Int × Int × Int × Bool => k.1)) (h.ids hL hE)
  rw [List.map_map, List.map_map] at this
  exact this

set_option maxHeartbeats 16000000 in
/-- Both show the same. -/
theorem same_any (B : Nat) (w0 w : World) (f mb fd : Nat) (vL : Value) (S : FS) (Ds : List DM) (N : Nat) (id : Int) (h : Two2 B w0 w f mb fd vL S Ds N) (hN : N ≤ 65535) :
    Calls Tryz.prog 20 #[.pointer (some ⟨f, 0, none⟩), .pointer (some ⟨fd, 0, none⟩), .int .i64 id] w fun e w' => e = .returned (.bool true) ∧ Below w.heap.size w w' := by
  have H := Lib.hid h
  have HN := Lib.hid hN
  have ID := Lib.hid (fi_ids h.fam h.ok (by omega))
  clear h hN
  go_enter Tryz.func20, Tryz.ntmps20
  go_wp2_with fail
  with_reducible refine (ID.out).mono ?_
  rintro e wi ⟨v, L, rfl, hL, hown, hb1⟩
  have h1 := H.out.next hb1
  have H1 := Lib.hid h1
  have HB1 := Lib.hid hb1
  obtain ⟨Ao, co, rfl, hco, hrow⟩ := row_form hown
  have HROW := Lib.hid hrow
  obtain ⟨m, hm⟩ : ∃ m, L.length = m := ⟨_, rfl⟩
  have HM := Lib.hid hm
  rw [hm] at hown hco ⊢
  have DI := Lib.hid (fun w' (hb : Below wi.heap.size wi w') => d_ids B fd S.k vL Ds w' (H1.out.doc.next hb) (Nat.le_trans H1.out.len HN.out))
  have HML : Hid (m ≤ 65535) := by
    have k1 := hL.1.length_eq
    have k2 : (ups S.L).length ≤ S.L.length := List.length_filter_le _ _
    have k3 := H1.out.ok.len
    have k4 := HN.out
    unfold Hid
    omega
  have SM : Hid (∀ E, DIds Ds E → ∀ (w' : World) (v' : Value) (B' : Nat), Below wi.heap.size wi w' → w'.ownsRow B' 3 1 v' E.length (E.map didVal) → Calls Tryz.prog 48 #[.slice Ao m co, v'] w' fun e w'' => e = .returned (.bool true) ∧ Below w'.heap.size w' w'') := by
    intro E hE w' v' B' hb hv'
    have e1 := H1.out.bes.same_ids hL hE
    have e2 : E.length = m := by
      have := congrArg List.length e1
      rw [List.length_map, List.length_map] at this
      omega
    have hx := own_next hown hb
    rw [id_vals] at hx
    rw [did_vals, ← e1, e2] at hv'
    exact rsame_any _ _ m _ _ _ w' hx hv' (by rw [List.length_map]; exact hm) HML.out
  obtain ⟨mk, hmk⟩ : ∃ z, S.k = z := ⟨_, rfl⟩
  obtain ⟨xv, hxv⟩ : ∃ z, vOf id S.L = z := ⟨_, rfl⟩
  obtain ⟨xt, hxt⟩ : ∃ z, tOf id S.L = z := ⟨_, rfl⟩
  obtain ⟨xu, hxu⟩ : ∃ z, upOf id S.L = z := ⟨_, rfl⟩
  have MK := Lib.hid (fun w' (hb : Below wi.heap.size wi w') => (fi_mark (H1.out.fam.next hb)).mono (R' := fun e w'' => e = .returned (.int .u64 mk) ∧ Below w'.heap.size w' w'') (by rintro e w'' ⟨rfl, rfl⟩; exact ⟨by rw [hmk], Below.refl _ _⟩))
  have V1 := Lib.hid (fun w' (hb : Below wi.heap.size wi w') => (fi_v id (H1.out.fam.next hb)).mono (R' := fun e w'' => e = .returned (.int .u64 xv) ∧ Below w'.heap.size w' w'') (by rintro e w'' ⟨rfl, rfl⟩; exact ⟨by rw [hxv], Below.refl _ _⟩))
  have T1 := Lib.hid (fun w' (hb : Below wi.heap.size wi w') => (fi_total id (H1.out.fam.next hb)).mono (R' := fun e w'' => e = .returned (.int .u64 xt) ∧ Below w'.heap.size w' w'') (by rintro e w'' ⟨rfl, rfl⟩; exact ⟨by rw [hxt], Below.refl _ _⟩))
  have U1 := Lib.hid (fun w' (hb : Below wi.heap.size wi w') => (fi_awake id (H1.out.fam.next hb)).mono (R' := fun e w'' => e = .returned (.bool xu) ∧ Below w'.heap.size w' w'') (by rintro e w'' ⟨rfl, rfl⟩; exact ⟨by rw [hxu], Below.refl _ _⟩))
  have V2 := Lib.hid (fun w' (hb : Below wi.heap.size wi w') => (d_v B fd S.k vL Ds id xv w' (H1.out.doc.next hb) (Nat.le_trans H1.out.len HN.out) ((H1.out.bes.v id).trans hxv)).mono (R' := fun e w'' => e = .returned (.int .u64 xv) ∧ Below w'.heap.size w' w'') (by rintro e w'' ⟨rfl, rfl⟩; exact ⟨rfl, Below.refl _ _⟩))
  have T2 := Lib.hid (fun w' (hb : Below wi.heap.size wi w') => (d_total B fd S.k vL Ds id xt w' (H1.out.doc.next hb) (Nat.le_trans H1.out.len HN.out) ((H1.out.bes.t id).trans hxt)).mono (R' := fun e w'' => e = .returned (.int .u64 xt) ∧ Below w'.heap.size w' w'') (by rintro e w'' ⟨rfl, rfl⟩; exact ⟨rfl, Below.refl _ _⟩))
  have U2 := Lib.hid (fun w' (hb : Below wi.heap.size wi w') => (d_awake B fd S.k vL Ds id xu w' (H1.out.doc.next hb) (Nat.le_trans H1.out.len HN.out) ((H1.out.bes.u id).trans hxu)).mono (R' := fun e w'' => e = .returned (.bool xu) ∧ Below w'.heap.size w' w'') (by rintro e w'' ⟨rfl, rfl⟩; exact ⟨rfl, Below.refl _ _⟩))
  have KM : Hid (∀ w', Below wi.heap.size wi w' → w'.cell? ⟨fd, 1, none⟩ = some (.int .u64 mk)) := fun w' hb => by have := (H1.out.doc.blk.next hb).get 1 rfl; rw [hmk] at this; exact this
  clear hL hown hrow hb1 h1 hm hmk hxv hxt hxu
  go_upto_region 2 with (fail)
  have KP : Hid (∀ w', Below (wi.heap.size) wi w' → (w'.cell? ⟨fd, 1, none⟩ = some (.int .u64 mk)) ∧ Below (wi.heap.size) wi w') := fun w' hb => ⟨(KM.out _ hb), hb⟩
  refine wp_region_noPanic ?_
  refine wp_region_held_drew (S := fun w' => (w'.cell? ⟨fd, 1, none⟩ = some (.int .u64 mk)) ∧ Below (wi.heap.size) wi w') (by kernel_rfl) (KP.out _ (below_of_drew ((Below.refl wi.heap.size wi)))) (fun hH => ?_)
  (refine wpAnyH_take (i := 0) (v := ?_) rfl ?_ ?_ ?_ (fun _ _ _ h => h) ?_ ?_ ?_; rotate_left; kernel_rfl; kernel_rfl; kernel_rfl; (focus (refine Or.inl ⟨by rfl, ?_⟩; intro w' hSw; (try dsimp only at hSw); go_simp; with_reducible rfl)); exact hH)
  try simp only [Act.put, List.getElem_toArray, List.getElem_cons_succ, List.getElem_cons_zero, List.setIfInBounds_toArray, List.set_cons_zero, List.set_cons_succ]
  (refine wpAnyH_take (i := 1) (v := ?_) rfl ?_ ?_ ?_ (fun _ _ _ h => h) ?_ ?_ ?_; rotate_left; kernel_rfl; kernel_rfl; kernel_rfl; (focus (refine Or.inl ⟨by rfl, ?_⟩; intro w' hSw; (try dsimp only at hSw); go_simp; with_reducible rfl)); exact hH)
  try simp only [Act.put, List.getElem_toArray, List.getElem_cons_succ, List.getElem_cons_zero, List.setIfInBounds_toArray, List.set_cons_zero, List.set_cons_succ]
  refine wpAnyH_ready (rs := [2]) (by kernel_rfl) (by simp) ?_
  refine AllReadyH.cons rfl (fun K hK => ?_) AllReadyH.nil
  go_simp
  with_reducible refine (DI.out _ hH.2).mono ?_
  rintro e w1 ⟨v2, E, rfl, hE, hown2, hb2⟩
  have hb1 : Below wi.heap.size wi w1 := below_next hH.2 hb2
  try go_wp2_with fail
  refine hK.out _ _ (KP.out _ hb1) (fun hH1 => ?_)
  clear hK K hH
  have hH := hH1
  clear hH1
  try simp only [Act.put, List.getElem_toArray, List.getElem_cons_succ, List.getElem_cons_zero, List.setIfInBounds_toArray, List.set_cons_zero, List.set_cons_succ]
  refine wpAnyH_ready (rs := [3]) (by kernel_rfl) (by simp) ?_
  refine AllReadyH.cons rfl (fun K hK => ?_) AllReadyH.nil
  go_simp
  with_reducible refine (SM.out E hE _ _ _ hH.2 hown2).mono ?_
  rintro e w2 ⟨rfl, hb2'⟩
  have hb2 : Below wi.heap.size wi w2 := below_next hH.2 hb2'
  try go_wp2_with fail
  refine hK.out _ _ (KP.out _ hb2) (fun hH2 => ?_)
  clear hK K hH
  have hH := hH2
  clear hH2
  try simp only [Act.put, List.getElem_toArray, List.getElem_cons_succ, List.getElem_cons_zero, List.setIfInBounds_toArray, List.set_cons_zero, List.set_cons_succ]
  (refine wpAnyH_take (i := 4) (v := ?_) rfl ?_ ?_ ?_ (fun _ _ _ h => h) ?_ ?_ ?_; rotate_left; kernel_rfl; kernel_rfl; kernel_rfl; (focus (refine Or.inl ⟨by rfl, ?_⟩; intro w' hSw; (try dsimp only at hSw); go_simp; with_reducible rfl)); exact hH)
  try simp only [Act.put, List.getElem_toArray, List.getElem_cons_succ, List.getElem_cons_zero, List.setIfInBounds_toArray, List.set_cons_zero, List.set_cons_succ]
  (refine wpAnyH_take (i := 5) (v := ?_) rfl ?_ ?_ ?_ (fun _ _ _ h => h) ?_ ?_ ?_; rotate_left; kernel_rfl; kernel_rfl; kernel_rfl; (focus (refine Or.inl ⟨by rfl, ?_⟩; intro w' hSw; (try dsimp only at hSw); go_simp; with_reducible rfl)); exact hH)
  try simp only [Act.put, List.getElem_toArray, List.getElem_cons_succ, List.getElem_cons_zero, List.setIfInBounds_toArray, List.set_cons_zero, List.set_cons_succ]
  (refine wpAnyH_take (i := 6) (v := ?_) rfl ?_ ?_ ?_ (fun _ _ _ h => h) ?_ ?_ ?_; rotate_left; kernel_rfl; kernel_rfl; kernel_rfl; (focus (refine Or.inl ⟨by rfl, ?_⟩; intro w' hSw; (try dsimp only at hSw); go_simp; with_reducible rfl)); exact hH)
  try simp only [Act.put, List.getElem_toArray, List.getElem_cons_succ, List.getElem_cons_zero, List.setIfInBounds_toArray, List.set_cons_zero, List.set_cons_succ]
  (refine wpAnyH_take (i := 8) (v := ?_) rfl ?_ ?_ ?_ (fun _ _ _ h => h) ?_ ?_ ?_; rotate_left; kernel_rfl; kernel_rfl; kernel_rfl; (focus (refine Or.inl ⟨by rfl, ?_⟩; intro w' hSw; (try dsimp only at hSw); go_simp; with_reducible rfl)); exact hH)
  try simp only [Act.put, List.getElem_toArray, List.getElem_cons_succ, List.getElem_cons_zero, List.setIfInBounds_toArray, List.set_cons_zero, List.set_cons_succ]
  (refine wpAnyH_take (i := 9) (v := ?_) rfl ?_ ?_ ?_ (fun _ _ _ h => h) ?_ ?_ ?_; rotate_left; kernel_rfl; kernel_rfl; kernel_rfl; (focus (refine Or.inl ⟨by rfl, ?_⟩; intro w' hSw; (try dsimp only at hSw); go_simp; with_reducible rfl)); exact hH)
  try simp only [Act.put, List.getElem_toArray, List.getElem_cons_succ, List.getElem_cons_zero, List.setIfInBounds_toArray, List.set_cons_zero, List.set_cons_succ]
  (refine wpAnyH_take (i := 10) (v := ?_) rfl ?_ ?_ ?_ (fun _ _ _ h => h) ?_ ?_ ?_; rotate_left; kernel_rfl; kernel_rfl; kernel_rfl; (focus (refine Or.inl ⟨by rfl, ?_⟩; intro w' hSw; (try dsimp only at hSw); go_simp; with_reducible rfl)); exact hH)
  try simp only [Act.put, List.getElem_toArray, List.getElem_cons_succ, List.getElem_cons_zero, List.setIfInBounds_toArray, List.set_cons_zero, List.set_cons_succ]
  (refine wpAnyH_take (i := 11) (v := ?_) rfl ?_ ?_ ?_ (fun _ _ _ h => h) ?_ ?_ ?_; rotate_left; kernel_rfl; kernel_rfl; kernel_rfl; (focus (refine Or.inl ⟨by rfl, ?_⟩; intro w' hSw; (try dsimp only at hSw); go_simp; with_reducible rfl)); exact hH)
  try simp only [Act.put, List.getElem_toArray, List.getElem_cons_succ, List.getElem_cons_zero, List.setIfInBounds_toArray, List.set_cons_zero, List.set_cons_succ]
  refine wpAnyH_ready (rs := [7]) (by kernel_rfl) (by simp) ?_
  refine AllReadyH.cons rfl (fun K hK => ?_) AllReadyH.nil
  go_simp
  with_reducible refine (MK.out _ hH.2).mono ?_
  rintro e w3 ⟨rfl, hb3'⟩
  have hb3 : Below wi.heap.size wi w3 := below_next hH.2 hb3'
  try go_wp2_with fail
  refine hK.out _ _ (KP.out _ hb3) (fun hH3 => ?_)
  clear hK K hH
  have hH := hH3
  clear hH3
  try simp only [Act.put, List.getElem_toArray, List.getElem_cons_succ, List.getElem_cons_zero, List.setIfInBounds_toArray, List.set_cons_zero, List.set_cons_succ]
  (refine wpAnyH_take (i := 12) (v := ?_) rfl ?_ ?_ ?_ (fun _ _ _ h => h) ?_ ?_ ?_; rotate_left; kernel_rfl; kernel_rfl; kernel_rfl; (focus (refine Or.inl ⟨by rfl, ?_⟩; intro w' hSw; (try dsimp only at hSw); go_simp; with_reducible rfl)); exact hH)
  try simp only [Act.put, List.getElem_toArray, List.getElem_cons_succ, List.getElem_cons_zero, List.setIfInBounds_toArray, List.set_cons_zero, List.set_cons_succ]
  (refine wpAnyH_take (i := 13) (v := ?_) rfl ?_ ?_ ?_ (fun _ _ _ h => h) ?_ ?_ ?_; rotate_left; kernel_rfl; kernel_rfl; kernel_rfl; (focus (refine Or.inl ⟨by rfl, ?_⟩; intro w' hSw; (try dsimp only at hSw); go_simp; with_reducible rfl)); exact hH)
  try simp only [Act.put, List.getElem_toArray, List.getElem_cons_succ, List.getElem_cons_zero, List.setIfInBounds_toArray, List.set_cons_zero, List.set_cons_succ]
  (refine wpAnyH_take (i := 14) (v := ?_) rfl ?_ ?_ ?_ (fun _ _ _ h => h) ?_ ?_ ?_; rotate_left; kernel_rfl; kernel_rfl; kernel_rfl; (focus (refine Or.inl ⟨by rfl, ?_⟩; intro w' hSw; (try dsimp only at hSw); go_simp; with_reducible rfl)); exact hH)
  try simp only [Act.put, List.getElem_toArray, List.getElem_cons_succ, List.getElem_cons_zero, List.setIfInBounds_toArray, List.set_cons_zero, List.set_cons_succ]
  (refine wpAnyH_take (i := 15) (v := ?_) rfl ?_ ?_ ?_ (fun _ _ _ h => h) ?_ ?_ ?_; rotate_left; kernel_rfl; kernel_rfl; kernel_rfl; (focus (refine Or.inl ⟨by rfl, ?_⟩; intro w' hSw; (try dsimp only at hSw); go_simp; with_reducible rfl)); exact hH)
  try simp only [Act.put, List.getElem_toArray, List.getElem_cons_succ, List.getElem_cons_zero, List.setIfInBounds_toArray, List.set_cons_zero, List.set_cons_succ]
  (refine wpAnyH_take (i := 16) (v := ?_) rfl ?_ ?_ ?_ (fun _ _ _ h => h) ?_ ?_ ?_; rotate_left; kernel_rfl; kernel_rfl; kernel_rfl; (focus (refine Or.inl ⟨by rfl, ?_⟩; intro w' hSw; (try dsimp only at hSw); go_simp; with_reducible rfl)); exact hH)
  try simp only [Act.put, List.getElem_toArray, List.getElem_cons_succ, List.getElem_cons_zero, List.setIfInBounds_toArray, List.set_cons_zero, List.set_cons_succ]
  (refine wpAnyH_take (i := 18) (v := ?_) rfl ?_ ?_ ?_ (fun _ _ _ h => h) ?_ ?_ ?_; rotate_left; kernel_rfl; kernel_rfl; kernel_rfl; (focus (refine Or.inl ⟨by rfl, ?_⟩; intro w' hSw; (try dsimp only at hSw); go_simp; with_reducible rfl)); exact hH)
  try simp only [Act.put, List.getElem_toArray, List.getElem_cons_succ, List.getElem_cons_zero, List.setIfInBounds_toArray, List.set_cons_zero, List.set_cons_succ]
  (refine wpAnyH_take (i := 19) (v := ?_) rfl ?_ ?_ ?_ (fun _ _ _ h => h) ?_ ?_ ?_; rotate_left; kernel_rfl; kernel_rfl; kernel_rfl; (focus (refine Or.inl ⟨by rfl, ?_⟩; intro w' hSw; (try dsimp only at hSw); go_simp; with_reducible rfl)); exact hH)
  try simp only [Act.put, List.getElem_toArray, List.getElem_cons_succ, List.getElem_cons_zero, List.setIfInBounds_toArray, List.set_cons_zero, List.set_cons_succ]
  refine wpAnyH_ready (rs := [17]) (by kernel_rfl) (by simp) ?_
  refine AllReadyH.cons rfl (fun K hK => ?_) AllReadyH.nil
  go_simp
  with_reducible refine (V1.out _ hH.2).mono ?_
  rintro e w4 ⟨rfl, hb4'⟩
  have hb4 : Below wi.heap.size wi w4 := below_next hH.2 hb4'
  try go_wp2_with fail
  refine hK.out _ _ (KP.out _ hb4) (fun hH4 => ?_)
  clear hK K hH
  have hH := hH4
  clear hH4
  try simp only [Act.put, List.getElem_toArray, List.getElem_cons_succ, List.getElem_cons_zero, List.setIfInBounds_toArray, List.set_cons_zero, List.set_cons_succ]
  refine wpAnyH_ready (rs := [20]) (by kernel_rfl) (by simp) ?_
  refine AllReadyH.cons rfl (fun K hK => ?_) AllReadyH.nil
  go_simp
  with_reducible refine (V2.out _ hH.2).mono ?_
  rintro e w5 ⟨rfl, hb5'⟩
  have hb5 : Below wi.heap.size wi w5 := below_next hH.2 hb5'
  try go_wp2_with fail
  refine hK.out _ _ (KP.out _ hb5) (fun hH5 => ?_)
  clear hK K hH
  have hH := hH5
  clear hH5
  try simp only [Act.put, List.getElem_toArray, List.getElem_cons_succ, List.getElem_cons_zero, List.setIfInBounds_toArray, List.set_cons_zero, List.set_cons_succ]
  (refine wpAnyH_take (i := 21) (v := ?_) rfl ?_ ?_ ?_ (fun _ _ _ h => h) ?_ ?_ ?_; rotate_left; kernel_rfl; kernel_rfl; kernel_rfl; (focus (refine Or.inl ⟨by rfl, ?_⟩; intro w' hSw; (try dsimp only at hSw); go_simp; with_reducible rfl)); exact hH)
  try simp only [Act.put, List.getElem_toArray, List.getElem_cons_succ, List.getElem_cons_zero, List.setIfInBounds_toArray, List.set_cons_zero, List.set_cons_succ]
  (refine wpAnyH_take (i := 22) (v := ?_) rfl ?_ ?_ ?_ (fun _ _ _ h => h) ?_ ?_ ?_; rotate_left; kernel_rfl; kernel_rfl; kernel_rfl; (focus (refine Or.inl ⟨by rfl, ?_⟩; intro w' hSw; (try dsimp only at hSw); go_simp; with_reducible rfl)); exact hH)
  try simp only [Act.put, List.getElem_toArray, List.getElem_cons_succ, List.getElem_cons_zero, List.setIfInBounds_toArray, List.set_cons_zero, List.set_cons_succ]
  (refine wpAnyH_take (i := 23) (v := ?_) rfl ?_ ?_ ?_ (fun _ _ _ h => h) ?_ ?_ ?_; rotate_left; kernel_rfl; kernel_rfl; kernel_rfl; (focus (refine Or.inl ⟨by rfl, ?_⟩; intro w' hSw; (try dsimp only at hSw); go_simp; with_reducible rfl)); exact hH)
  try simp only [Act.put, List.getElem_toArray, List.getElem_cons_succ, List.getElem_cons_zero, List.setIfInBounds_toArray, List.set_cons_zero, List.set_cons_succ]
  (refine wpAnyH_take (i := 24) (v := ?_) rfl ?_ ?_ ?_ (fun _ _ _ h => h) ?_ ?_ ?_; rotate_left; kernel_rfl; kernel_rfl; kernel_rfl; (focus (refine Or.inl ⟨by rfl, ?_⟩; intro w' hSw; (try dsimp only at hSw); go_simp; with_reducible rfl)); exact hH)
  try simp only [Act.put, List.getElem_toArray, List.getElem_cons_succ, List.getElem_cons_zero, List.setIfInBounds_toArray, List.set_cons_zero, List.set_cons_succ]
  (refine wpAnyH_take (i := 25) (v := ?_) rfl ?_ ?_ ?_ (fun _ _ _ h => h) ?_ ?_ ?_; rotate_left; kernel_rfl; kernel_rfl; kernel_rfl; (focus (refine Or.inl ⟨by rfl, ?_⟩; intro w' hSw; (try dsimp only at hSw); go_simp; with_reducible rfl)); exact hH)
  try simp only [Act.put, List.getElem_toArray, List.getElem_cons_succ, List.getElem_cons_zero, List.setIfInBounds_toArray, List.set_cons_zero, List.set_cons_succ]
  (refine wpAnyH_take (i := 27) (v := ?_) rfl ?_ ?_ ?_ (fun _ _ _ h => h) ?_ ?_ ?_; rotate_left; kernel_rfl; kernel_rfl; kernel_rfl; (focus (refine Or.inl ⟨by rfl, ?_⟩; intro w' hSw; (try dsimp only at hSw); go_simp; with_reducible rfl)); exact hH)
  try simp only [Act.put, List.getElem_toArray, List.getElem_cons_succ, List.getElem_cons_zero, List.setIfInBounds_toArray, List.set_cons_zero, List.set_cons_succ]
  (refine wpAnyH_take (i := 28) (v := ?_) rfl ?_ ?_ ?_ (fun _ _ _ h => h) ?_ ?_ ?_; rotate_left; kernel_rfl; kernel_rfl; kernel_rfl; (focus (refine Or.inl ⟨by rfl, ?_⟩; intro w' hSw; (try dsimp only at hSw); go_simp; with_reducible rfl)); exact hH)
  try simp only [Act.put, List.getElem_toArray, List.getElem_cons_succ, List.getElem_cons_zero, List.setIfInBounds_toArray, List.set_cons_zero, List.set_cons_succ]
  refine wpAnyH_ready (rs := [26]) (by kernel_rfl) (by simp) ?_
  refine AllReadyH.cons rfl (fun K hK => ?_) AllReadyH.nil
  go_simp
  with_reducible refine (T1.out _ hH.2).mono ?_
  rintro e w6 ⟨rfl, hb6'⟩
  have hb6 : Below wi.heap.size wi w6 := below_next hH.2 hb6'
  try go_wp2_with fail
  refine hK.out _ _ (KP.out _ hb6) (fun hH6 => ?_)
  clear hK K hH
  have hH := hH6
  clear hH6
  try simp only [Act.put, List.getElem_toArray, List.getElem_cons_succ, List.getElem_cons_zero, List.setIfInBounds_toArray, List.set_cons_zero, List.set_cons_succ]
  refine wpAnyH_ready (rs := [29]) (by kernel_rfl) (by simp) ?_
  refine AllReadyH.cons rfl (fun K hK => ?_) AllReadyH.nil
  go_simp
  with_reducible refine (T2.out _ hH.2).mono ?_
  rintro e w7 ⟨rfl, hb7'⟩
  have hb7 : Below wi.heap.size wi w7 := below_next hH.2 hb7'
  try go_wp2_with fail
  refine hK.out _ _ (KP.out _ hb7) (fun hH7 => ?_)
  clear hK K hH
  have hH := hH7
  clear hH7
  try simp only [Act.put, List.getElem_toArray, List.getElem_cons_succ, List.getElem_cons_zero, List.setIfInBounds_toArray, List.set_cons_zero, List.set_cons_succ]
  (refine wpAnyH_take (i := 30) (v := ?_) rfl ?_ ?_ ?_ (fun _ _ _ h => h) ?_ ?_ ?_; rotate_left; kernel_rfl; kernel_rfl; kernel_rfl; (focus (refine Or.inl ⟨by rfl, ?_⟩; intro w' hSw; (try dsimp only at hSw); go_simp; with_reducible rfl)); exact hH)
  try simp only [Act.put, List.getElem_toArray, List.getElem_cons_succ, List.getElem_cons_zero, List.setIfInBounds_toArray, List.set_cons_zero, List.set_cons_succ]
  (refine wpAnyH_take (i := 31) (v := ?_) rfl ?_ ?_ ?_ (fun _ _ _ h => h) ?_ ?_ ?_; rotate_left; kernel_rfl; kernel_rfl; kernel_rfl; (focus (refine Or.inl ⟨by rfl, ?_⟩; intro w' hSw; (try dsimp only at hSw); go_simp; with_reducible rfl)); exact hH)
  try simp only [Act.put, List.getElem_toArray, List.getElem_cons_succ, List.getElem_cons_zero, List.setIfInBounds_toArray, List.set_cons_zero, List.set_cons_succ]
  (refine wpAnyH_take (i := 32) (v := ?_) rfl ?_ ?_ ?_ (fun _ _ _ h => h) ?_ ?_ ?_; rotate_left; kernel_rfl; kernel_rfl; kernel_rfl; (focus (refine Or.inl ⟨by rfl, ?_⟩; intro w' hSw; (try dsimp only at hSw); go_simp; with_reducible rfl)); exact hH)
  try simp only [Act.put, List.getElem_toArray, List.getElem_cons_succ, List.getElem_cons_zero, List.setIfInBounds_toArray, List.set_cons_zero, List.set_cons_succ]
  (refine wpAnyH_take (i := 33) (v := ?_) rfl ?_ ?_ ?_ (fun _ _ _ h => h) ?_ ?_ ?_; rotate_left; kernel_rfl; kernel_rfl; kernel_rfl; (focus (refine Or.inl ⟨by rfl, ?_⟩; intro w' hSw; (try dsimp only at hSw); go_simp; with_reducible rfl)); exact hH)
  try simp only [Act.put, List.getElem_toArray, List.getElem_cons_succ, List.getElem_cons_zero, List.setIfInBounds_toArray, List.set_cons_zero, List.set_cons_succ]
  (refine wpAnyH_take (i := 34) (v := ?_) rfl ?_ ?_ ?_ (fun _ _ _ h => h) ?_ ?_ ?_; rotate_left; kernel_rfl; kernel_rfl; kernel_rfl; (focus (refine Or.inl ⟨by rfl, ?_⟩; intro w' hSw; (try dsimp only at hSw); go_simp; with_reducible rfl)); exact hH)
  try simp only [Act.put, List.getElem_toArray, List.getElem_cons_succ, List.getElem_cons_zero, List.setIfInBounds_toArray, List.set_cons_zero, List.set_cons_succ]
  (refine wpAnyH_take (i := 36) (v := ?_) rfl ?_ ?_ ?_ (fun _ _ _ h => h) ?_ ?_ ?_; rotate_left; kernel_rfl; kernel_rfl; kernel_rfl; (focus (refine Or.inl ⟨by rfl, ?_⟩; intro w' hSw; (try dsimp only at hSw); go_simp; with_reducible rfl)); exact hH)
  try simp only [Act.put, List.getElem_toArray, List.getElem_cons_succ, List.getElem_cons_zero, List.setIfInBounds_toArray, List.set_cons_zero, List.set_cons_succ]
  (refine wpAnyH_take (i := 37) (v := ?_) rfl ?_ ?_ ?_ (fun _ _ _ h => h) ?_ ?_ ?_; rotate_left; kernel_rfl; kernel_rfl; kernel_rfl; (focus (refine Or.inl ⟨by rfl, ?_⟩; intro w' hSw; (try dsimp only at hSw); go_simp; with_reducible rfl)); exact hH)
  try simp only [Act.put, List.getElem_toArray, List.getElem_cons_succ, List.getElem_cons_zero, List.setIfInBounds_toArray, List.set_cons_zero, List.set_cons_succ]
  refine wpAnyH_ready (rs := [35]) (by kernel_rfl) (by simp) ?_
  refine AllReadyH.cons rfl (fun K hK => ?_) AllReadyH.nil
  go_simp
  with_reducible refine (U1.out _ hH.2).mono ?_
  rintro e w8 ⟨rfl, hb8'⟩
  have hb8 : Below wi.heap.size wi w8 := below_next hH.2 hb8'
  try go_wp2_with fail
  refine hK.out _ _ (KP.out _ hb8) (fun hH8 => ?_)
  clear hK K hH
  have hH := hH8
  clear hH8
  try simp only [Act.put, List.getElem_toArray, List.getElem_cons_succ, List.getElem_cons_zero, List.setIfInBounds_toArray, List.set_cons_zero, List.set_cons_succ]
  refine wpAnyH_ready (rs := [38]) (by kernel_rfl) (by simp) ?_
  refine AllReadyH.cons rfl (fun K hK => ?_) AllReadyH.nil
  go_simp
  with_reducible refine (U2.out _ hH.2).mono ?_
  rintro e w9 ⟨rfl, hb9'⟩
  have hb9 : Below wi.heap.size wi w9 := below_next hH.2 hb9'
  try go_wp2_with fail
  refine hK.out _ _ (KP.out _ hb9) (fun hH9 => ?_)
  clear hK K hH
  have hH := hH9
  clear hH9
  try simp only [Act.put, List.getElem_toArray, List.getElem_cons_succ, List.getElem_cons_zero, List.setIfInBounds_toArray, List.set_cons_zero, List.set_cons_succ]
  (refine wpAnyH_take (i := 39) (v := ?_) rfl ?_ ?_ ?_ (fun _ _ _ h => h) ?_ ?_ ?_; rotate_left; kernel_rfl; kernel_rfl; kernel_rfl; (focus (refine Or.inl ⟨by rfl, ?_⟩; intro w' hSw; (try dsimp only at hSw); go_simp; with_reducible rfl)); exact hH)
  try simp only [Act.put, List.getElem_toArray, List.getElem_cons_succ, List.getElem_cons_zero, List.setIfInBounds_toArray, List.set_cons_zero, List.set_cons_succ]
  (refine wpAnyH_take (i := 40) (v := ?_) rfl ?_ ?_ ?_ (fun _ _ _ h => h) ?_ ?_ ?_; rotate_left; kernel_rfl; kernel_rfl; kernel_rfl; (focus (refine Or.inl ⟨by rfl, ?_⟩; intro w' hSw; (try dsimp only at hSw); go_simp; with_reducible rfl)); exact hH)
  try simp only [Act.put, List.getElem_toArray, List.getElem_cons_succ, List.getElem_cons_zero, List.setIfInBounds_toArray, List.set_cons_zero, List.set_cons_succ]
  refine wpAnyH_done (by kernel_rfl) ?_ _
  refine NoPanic.normal ?_
  clear hH
  try clear hH
  have HB9 := Lib.hid (below_next HB1.out hb9)
  obtain ⟨we, rfl⟩ : ∃ x : World, x = w9 := ⟨_, rfl⟩
  have HBE := Lib.hid hb9
  clear KP MK V1 T1 U1 V2 T2 U2 DI SM KM hown2 hE hb2 hb3 hb4 hb5 hb6 hb7 hb8 hb9
  obtain ⟨l, hl⟩ : ∃ l, Ds.length = l := ⟨_, rfl⟩
  have HL := Lib.hid hl
  clear hl
  go_wp2_with fail
  go_loopg [8] l (fun gk ix wr => ∃ i : Nat, i + gk = l ∧ ix = .int .i64 (i : Int) ∧ Below we.heap.size we wr)
  case atStart => exact ⟨0, by omega, rfl, Below.refl _ _⟩
  case round =>
    obtain ⟨i, hi, rfl, hbr⟩ := hrel
    have HR := Lib.hid hbr
    obtain ⟨go, rfl⟩ : ∃ x : Nat, x = gk := ⟨_, rfl⟩
    obtain ⟨wo, rfl⟩ : ∃ x : World, x = wr := ⟨_, rfl⟩
    have H2 := Lib.hid (H1.out.next (below_next HBE.out hbr))
    obtain ⟨A, c, hvL, hlc, -, hcells⟩ := H2.out.doc.form
    subst hvL
    have HCE := Lib.hid hcells
    have c0 := H2.out.doc.blk.get 0 rfl
    rw [HL.out] at c0 hlc
    have HLE := Lib.hid (show l ≤ 65535 by have := H2.out.len; have := HL.out; have := HN.out; omega)
    clear hcells hbr
    by_cases hlt : i < l
    · obtain ⟨gm, rfl⟩ : ∃ gm, go = gm + 1 := ⟨go - 1, by omega⟩
      obtain ⟨d, hd⟩ : ∃ d, Ds[i]? = some d := ⟨Ds[i]'(by rw [HL.out]; exact hlt), List.getElem?_eq_getElem _⟩
      obtain ⟨g, rfl, -, hg2, -, y0, y1, y2, y3, y4⟩ := HCE.out i d hd
      have hdm := List.mem_of_getElem? hd
      have hids := H2.out.doc.ids
      obtain ⟨did, edid⟩ : ∃ z, d.id = z := ⟨_, rfl⟩
      obtain ⟨dT', edT⟩ : ∃ z, d.T = z := ⟨_, rfl⟩
      obtain ⟨dv, edv⟩ : ∃ z, d.v = z := ⟨_, rfl⟩
      obtain ⟨du, edu⟩ : ∃ z, d.up = z := ⟨_, rfl⟩
      obtain ⟨dr, edr⟩ : ∃ z, d.r = z := ⟨_, rfl⟩
      have ev : vOf did S.L = dv := by rw [← H2.out.bes.v, ← edid, dV_mem hids hdm, edv]
      have et : tOf did S.L = dT' := by rw [← H2.out.bes.t, ← edid, dT_mem hids hdm, edT]
      have eu : upOf did S.L = du := by rw [← H2.out.bes.u, ← edid, dU_mem hids hdm, edu]
      rw [edid] at y0
      rw [edT] at y1
      rw [edv] at y2
      rw [edr] at y3
      rw [edu] at y4
      have hba : Below wo.heap.size wo (wo.alloc (.cells #[.int .i64 did, .int .u64 dT', .int .u64 dv, .pointer (some ⟨dr, 0, none⟩), .bool du] 75)) := by go_grown
      have bx := Blk.new wo 75 #[.int .i64 did, .int .u64 dT', .int .u64 dv, .pointer (some ⟨dr, 0, none⟩), .bool du]
      obtain ⟨wa, hwa⟩ : ∃ z, wo.alloc (.cells #[.int .i64 did, .int .u64 dT', .int .u64 dv, .pointer (some ⟨dr, 0, none⟩), .bool du] 75) = z := ⟨_, rfl⟩
      rw [hwa] at hba bx
      obtain ⟨XB, hXB⟩ : ∃ z, wo.heap.size = z := ⟨_, rfl⟩
      rw [hXB] at bx
      have HXB := Lib.hid hXB
      have HBX := Lib.hid bx
      have HWA := Lib.hid hwa
      have HBA := Lib.hid hba
      have VX := Lib.hid (fun w' (hb : Below wa.heap.size wa w') => (fi_v did ((H2.out.next hba).fam.next hb)).mono (R' := fun e w'' => e = .returned (.int .u64 dv) ∧ Below w'.heap.size w' w'') (by rintro e w'' ⟨rfl, rfl⟩; exact ⟨by rw [ev], Below.refl _ _⟩))
      have TX := Lib.hid (fun w' (hb : Below wa.heap.size wa w') => (fi_total did ((H2.out.next hba).fam.next hb)).mono (R' := fun e w'' => e = .returned (.int .u64 dT') ∧ Below w'.heap.size w' w'') (by rintro e w'' ⟨rfl, rfl⟩; exact ⟨by rw [et], Below.refl _ _⟩))
      have UX := Lib.hid (fun w' (hb : Below wa.heap.size wa w') => (fi_awake did ((H2.out.next hba).fam.next hb)).mono (R' := fun e w'' => e = .returned (.bool du) ∧ Below w'.heap.size w' w'') (by rintro e w'' ⟨rfl, rfl⟩; exact ⟨by rw [eu], Below.refl _ _⟩))
      have p0 : (0 : Int) ≤ (i : Int) := by omega
      have p1 : (i : Int) < (l : Int) := by omega
      have e5 : wrap64 ((i : Int) + 1) = ((i + 1 : Nat) : Int) := by have := HLE.out; unfold wrap64; omega
      clear hd hdm hids edid edT edv edu edr ev et eu hwa hba bx hXB hg2
      have KX : Hid (∀ w', Below (wa.heap.size) wa w' → (w'.cell? ⟨XB, 0, none⟩ = some (.int .i64 did) ∧ w'.cell? ⟨XB, 1, none⟩ = some (.int .u64 dT') ∧ w'.cell? ⟨XB, 2, none⟩ = some (.int .u64 dv) ∧ w'.cell? ⟨XB, 4, none⟩ = some (.bool du)) ∧ Below (wa.heap.size) wa w') := fun w' hb => ⟨⟨((HBX.out.next hb).get 0 rfl), ((HBX.out.next hb).get 1 rfl), ((HBX.out.next hb).get 2 rfl), ((HBX.out.next hb).get 4 rfl)⟩, hb⟩
      go_upto_region 8 with (fail)
      rw [HWA.out, HXB.out]
      refine wp_region_noPanic ?_
      refine wp_region_held_drew (S := fun w' => (w'.cell? ⟨XB, 0, none⟩ = some (.int .i64 did) ∧ w'.cell? ⟨XB, 1, none⟩ = some (.int .u64 dT') ∧ w'.cell? ⟨XB, 2, none⟩ = some (.int .u64 dv) ∧ w'.cell? ⟨XB, 4, none⟩ = some (.bool du)) ∧ Below (wa.heap.size) wa w') (by kernel_rfl) (KX.out _ (below_of_drew ((Below.refl wa.heap.size wa)))) (fun hH => ?_)
      (refine wpAnyH_take (i := 0) (v := ?_) rfl ?_ ?_ ?_ (fun _ _ _ h => h) ?_ ?_ ?_; rotate_left; kernel_rfl; kernel_rfl; kernel_rfl; (focus (refine Or.inl ⟨by rfl, ?_⟩; intro w' hSw; (try dsimp only at hSw); go_simp; with_reducible rfl)); exact hH)
      try simp only [Act.put, List.getElem_toArray, List.getElem_cons_succ, List.getElem_cons_zero, List.setIfInBounds_toArray, List.set_cons_zero, List.set_cons_succ]
      (refine wpAnyH_take (i := 1) (v := ?_) rfl ?_ ?_ ?_ (fun _ _ _ h => h) ?_ ?_ ?_; rotate_left; kernel_rfl; kernel_rfl; kernel_rfl; (focus (refine Or.inl ⟨by rfl, ?_⟩; intro w' hSw; (try dsimp only at hSw); go_simp; with_reducible rfl)); exact hH)
      try simp only [Act.put, List.getElem_toArray, List.getElem_cons_succ, List.getElem_cons_zero, List.setIfInBounds_toArray, List.set_cons_zero, List.set_cons_succ]
      (refine wpAnyH_take (i := 2) (v := ?_) rfl ?_ ?_ ?_ (fun _ _ _ h => h) ?_ ?_ ?_; rotate_left; kernel_rfl; kernel_rfl; kernel_rfl; (focus (refine Or.inl ⟨by rfl, ?_⟩; intro w' hSw; (try dsimp only at hSw); go_simp; with_reducible rfl)); exact hH)
      try simp only [Act.put, List.getElem_toArray, List.getElem_cons_succ, List.getElem_cons_zero, List.setIfInBounds_toArray, List.set_cons_zero, List.set_cons_succ]
      (refine wpAnyH_take (i := 4) (v := ?_) rfl ?_ ?_ ?_ (fun _ _ _ h => h) ?_ ?_ ?_; rotate_left; kernel_rfl; kernel_rfl; kernel_rfl; (focus (refine Or.inl ⟨by rfl, ?_⟩; intro w' hSw; (try dsimp only at hSw); go_simp; with_reducible rfl)); exact hH)
      try simp only [Act.put, List.getElem_toArray, List.getElem_cons_succ, List.getElem_cons_zero, List.setIfInBounds_toArray, List.set_cons_zero, List.set_cons_succ]
      (refine wpAnyH_take (i := 5) (v := ?_) rfl ?_ ?_ ?_ (fun _ _ _ h => h) ?_ ?_ ?_; rotate_left; kernel_rfl; kernel_rfl; kernel_rfl; (focus (refine Or.inl ⟨by rfl, ?_⟩; intro w' hSw; (try dsimp only at hSw); go_simp; with_reducible rfl)); exact hH)
      try simp only [Act.put, List.getElem_toArray, List.getElem_cons_succ, List.getElem_cons_zero, List.setIfInBounds_toArray, List.set_cons_zero, List.set_cons_succ]
      refine wpAnyH_ready (rs := [3]) (by kernel_rfl) (by simp) ?_
      refine AllReadyH.cons rfl (fun K hK => ?_) AllReadyH.nil
      go_simp
      with_reducible refine (VX.out _ hH.2).mono ?_
      rintro e w1 ⟨rfl, hb1'⟩
      have hb1 : Below wa.heap.size wa w1 := below_next hH.2 hb1'
      try go_wp2_with fail
      refine hK.out _ _ (KX.out _ hb1) (fun hH1 => ?_)
      clear hK K hH
      have hH := hH1
      clear hH1
      try simp only [Act.put, List.getElem_toArray, List.getElem_cons_succ, List.getElem_cons_zero, List.setIfInBounds_toArray, List.set_cons_zero, List.set_cons_succ]
      (refine wpAnyH_take (i := 6) (v := ?_) rfl ?_ ?_ ?_ (fun _ _ _ h => h) ?_ ?_ ?_; rotate_left; kernel_rfl; kernel_rfl; kernel_rfl; (focus (refine Or.inl ⟨by rfl, ?_⟩; intro w' hSw; (try dsimp only at hSw); go_simp; with_reducible rfl)); exact hH)
      try simp only [Act.put, List.getElem_toArray, List.getElem_cons_succ, List.getElem_cons_zero, List.setIfInBounds_toArray, List.set_cons_zero, List.set_cons_succ]
      (refine wpAnyH_take (i := 7) (v := ?_) rfl ?_ ?_ ?_ (fun _ _ _ h => h) ?_ ?_ ?_; rotate_left; kernel_rfl; kernel_rfl; kernel_rfl; (focus (refine Or.inl ⟨by rfl, ?_⟩; intro w' hSw; (try dsimp only at hSw); go_simp; with_reducible rfl)); exact hH)
      try simp only [Act.put, List.getElem_toArray, List.getElem_cons_succ, List.getElem_cons_zero, List.setIfInBounds_toArray, List.set_cons_zero, List.set_cons_succ]
      (refine wpAnyH_take (i := 8) (v := ?_) rfl ?_ ?_ ?_ (fun _ _ _ h => h) ?_ ?_ ?_; rotate_left; kernel_rfl; kernel_rfl; kernel_rfl; (focus (refine Or.inl ⟨by rfl, ?_⟩; intro w' hSw; (try dsimp only at hSw); go_simp; with_reducible rfl)); exact hH)
      try simp only [Act.put, List.getElem_toArray, List.getElem_cons_succ, List.getElem_cons_zero, List.setIfInBounds_toArray, List.set_cons_zero, List.set_cons_succ]
      (refine wpAnyH_take (i := 9) (v := ?_) rfl ?_ ?_ ?_ (fun _ _ _ h => h) ?_ ?_ ?_; rotate_left; kernel_rfl; kernel_rfl; kernel_rfl; (focus (refine Or.inl ⟨by rfl, ?_⟩; intro w' hSw; (try dsimp only at hSw); go_simp; with_reducible rfl)); exact hH)
      try simp only [Act.put, List.getElem_toArray, List.getElem_cons_succ, List.getElem_cons_zero, List.setIfInBounds_toArray, List.set_cons_zero, List.set_cons_succ]
      (refine wpAnyH_take (i := 10) (v := ?_) rfl ?_ ?_ ?_ (fun _ _ _ h => h) ?_ ?_ ?_; rotate_left; kernel_rfl; kernel_rfl; kernel_rfl; (focus (refine Or.inl ⟨by rfl, ?_⟩; intro w' hSw; (try dsimp only at hSw); go_simp; with_reducible rfl)); exact hH)
      try simp only [Act.put, List.getElem_toArray, List.getElem_cons_succ, List.getElem_cons_zero, List.setIfInBounds_toArray, List.set_cons_zero, List.set_cons_succ]
      (refine wpAnyH_take (i := 12) (v := ?_) rfl ?_ ?_ ?_ (fun _ _ _ h => h) ?_ ?_ ?_; rotate_left; kernel_rfl; kernel_rfl; kernel_rfl; (focus (refine Or.inl ⟨by rfl, ?_⟩; intro w' hSw; (try dsimp only at hSw); go_simp; with_reducible rfl)); exact hH)
      try simp only [Act.put, List.getElem_toArray, List.getElem_cons_succ, List.getElem_cons_zero, List.setIfInBounds_toArray, List.set_cons_zero, List.set_cons_succ]
      (refine wpAnyH_take (i := 13) (v := ?_) rfl ?_ ?_ ?_ (fun _ _ _ h => h) ?_ ?_ ?_; rotate_left; kernel_rfl; kernel_rfl; kernel_rfl; (focus (refine Or.inl ⟨by rfl, ?_⟩; intro w' hSw; (try dsimp only at hSw); go_simp; with_reducible rfl)); exact hH)
      try simp only [Act.put, List.getElem_toArray, List.getElem_cons_succ, List.getElem_cons_zero, List.setIfInBounds_toArray, List.set_cons_zero, List.set_cons_succ]
      refine wpAnyH_ready (rs := [11]) (by kernel_rfl) (by simp) ?_
      refine AllReadyH.cons rfl (fun K hK => ?_) AllReadyH.nil
      go_simp
      with_reducible refine (TX.out _ hH.2).mono ?_
      rintro e w2 ⟨rfl, hb2'⟩
      have hb2 : Below wa.heap.size wa w2 := below_next hH.2 hb2'
      try go_wp2_with fail
      refine hK.out _ _ (KX.out _ hb2) (fun hH2 => ?_)
      clear hK K hH
      have hH := hH2
      clear hH2
      try simp only [Act.put, List.getElem_toArray, List.getElem_cons_succ, List.getElem_cons_zero, List.setIfInBounds_toArray, List.set_cons_zero, List.set_cons_succ]
      (refine wpAnyH_take (i := 14) (v := ?_) rfl ?_ ?_ ?_ (fun _ _ _ h => h) ?_ ?_ ?_; rotate_left; kernel_rfl; kernel_rfl; kernel_rfl; (focus (refine Or.inl ⟨by rfl, ?_⟩; intro w' hSw; (try dsimp only at hSw); go_simp; with_reducible rfl)); exact hH)
      try simp only [Act.put, List.getElem_toArray, List.getElem_cons_succ, List.getElem_cons_zero, List.setIfInBounds_toArray, List.set_cons_zero, List.set_cons_succ]
      (refine wpAnyH_take (i := 15) (v := ?_) rfl ?_ ?_ ?_ (fun _ _ _ h => h) ?_ ?_ ?_; rotate_left; kernel_rfl; kernel_rfl; kernel_rfl; (focus (refine Or.inl ⟨by rfl, ?_⟩; intro w' hSw; (try dsimp only at hSw); go_simp; with_reducible rfl)); exact hH)
      try simp only [Act.put, List.getElem_toArray, List.getElem_cons_succ, List.getElem_cons_zero, List.setIfInBounds_toArray, List.set_cons_zero, List.set_cons_succ]
      (refine wpAnyH_take (i := 16) (v := ?_) rfl ?_ ?_ ?_ (fun _ _ _ h => h) ?_ ?_ ?_; rotate_left; kernel_rfl; kernel_rfl; kernel_rfl; (focus (refine Or.inl ⟨by rfl, ?_⟩; intro w' hSw; (try dsimp only at hSw); go_simp; with_reducible rfl)); exact hH)
      try simp only [Act.put, List.getElem_toArray, List.getElem_cons_succ, List.getElem_cons_zero, List.setIfInBounds_toArray, List.set_cons_zero, List.set_cons_succ]
      (refine wpAnyH_take (i := 17) (v := ?_) rfl ?_ ?_ ?_ (fun _ _ _ h => h) ?_ ?_ ?_; rotate_left; kernel_rfl; kernel_rfl; kernel_rfl; (focus (refine Or.inl ⟨by rfl, ?_⟩; intro w' hSw; (try dsimp only at hSw); go_simp; with_reducible rfl)); exact hH)
      try simp only [Act.put, List.getElem_toArray, List.getElem_cons_succ, List.getElem_cons_zero, List.setIfInBounds_toArray, List.set_cons_zero, List.set_cons_succ]
      (refine wpAnyH_take (i := 18) (v := ?_) rfl ?_ ?_ ?_ (fun _ _ _ h => h) ?_ ?_ ?_; rotate_left; kernel_rfl; kernel_rfl; kernel_rfl; (focus (refine Or.inl ⟨by rfl, ?_⟩; intro w' hSw; (try dsimp only at hSw); go_simp; with_reducible rfl)); exact hH)
      try simp only [Act.put, List.getElem_toArray, List.getElem_cons_succ, List.getElem_cons_zero, List.setIfInBounds_toArray, List.set_cons_zero, List.set_cons_succ]
      (refine wpAnyH_take (i := 19) (v := ?_) rfl ?_ ?_ ?_ (fun _ _ _ h => h) ?_ ?_ ?_; rotate_left; kernel_rfl; kernel_rfl; kernel_rfl; (focus (refine Or.inl ⟨by rfl, ?_⟩; intro w' hSw; (try dsimp only at hSw); go_simp; with_reducible rfl)); exact hH)
      try simp only [Act.put, List.getElem_toArray, List.getElem_cons_succ, List.getElem_cons_zero, List.setIfInBounds_toArray, List.set_cons_zero, List.set_cons_succ]
      (refine wpAnyH_take (i := 21) (v := ?_) rfl ?_ ?_ ?_ (fun _ _ _ h => h) ?_ ?_ ?_; rotate_left; kernel_rfl; kernel_rfl; kernel_rfl; (focus (refine Or.inl ⟨by rfl, ?_⟩; intro w' hSw; (try dsimp only at hSw); go_simp; with_reducible rfl)); exact hH)
      try simp only [Act.put, List.getElem_toArray, List.getElem_cons_succ, List.getElem_cons_zero, List.setIfInBounds_toArray, List.set_cons_zero, List.set_cons_succ]
      (refine wpAnyH_take (i := 22) (v := ?_) rfl ?_ ?_ ?_ (fun _ _ _ h => h) ?_ ?_ ?_; rotate_left; kernel_rfl; kernel_rfl; kernel_rfl; (focus (refine Or.inl ⟨by rfl, ?_⟩; intro w' hSw; (try dsimp only at hSw); go_simp; with_reducible rfl)); exact hH)
      try simp only [Act.put, List.getElem_toArray, List.getElem_cons_succ, List.getElem_cons_zero, List.setIfInBounds_toArray, List.set_cons_zero, List.set_cons_succ]
      refine wpAnyH_ready (rs := [20]) (by kernel_rfl) (by simp) ?_
      refine AllReadyH.cons rfl (fun K hK => ?_) AllReadyH.nil
      go_simp
      with_reducible refine (UX.out _ hH.2).mono ?_
      rintro e w3 ⟨rfl, hb3'⟩
      have hb3 : Below wa.heap.size wa w3 := below_next hH.2 hb3'
      try go_wp2_with fail
      refine hK.out _ _ (KX.out _ hb3) (fun hH3 => ?_)
      clear hK K hH
      have hH := hH3
      clear hH3
      try simp only [Act.put, List.getElem_toArray, List.getElem_cons_succ, List.getElem_cons_zero, List.setIfInBounds_toArray, List.set_cons_zero, List.set_cons_succ]
      (refine wpAnyH_take (i := 23) (v := ?_) rfl ?_ ?_ ?_ (fun _ _ _ h => h) ?_ ?_ ?_; rotate_left; kernel_rfl; kernel_rfl; kernel_rfl; (focus (refine Or.inl ⟨by rfl, ?_⟩; intro w' hSw; (try dsimp only at hSw); go_simp; with_reducible rfl)); exact hH)
      try simp only [Act.put, List.getElem_toArray, List.getElem_cons_succ, List.getElem_cons_zero, List.setIfInBounds_toArray, List.set_cons_zero, List.set_cons_succ]
      (refine wpAnyH_take (i := 24) (v := ?_) rfl ?_ ?_ ?_ (fun _ _ _ h => h) ?_ ?_ ?_; rotate_left; kernel_rfl; kernel_rfl; kernel_rfl; (focus (refine Or.inl ⟨by rfl, ?_⟩; intro w' hSw; (try dsimp only at hSw); go_simp; with_reducible rfl)); exact hH)
      try simp only [Act.put, List.getElem_toArray, List.getElem_cons_succ, List.getElem_cons_zero, List.setIfInBounds_toArray, List.set_cons_zero, List.set_cons_succ]
      refine wpAnyH_done (by kernel_rfl) ?_ _
      refine NoPanic.normal ?_
      clear hH
      try clear hH
      have HZ := Lib.hid (below_next HR.out (below_next HBA.out hb3))
      clear hb1 hb2 hb3 y0 y1 y2 y3 y4 KX VX TX UX
      go_wp2_with fail
      go_roundg gm
      case rel => exact ⟨i + 1, by omega, by go_num, HZ.out⟩
      case measure => omega
    · obtain rfl : go = 0 := by omega
      obtain rfl : i = l := by omega
      have HBO := Lib.hid (below_next HB9.out HR.out)
      have hst : 0 < m → ∃ (g : Nat) (cs : Array Value), Ao = some ⟨g, 0, none⟩ ∧ w.heap.size ≤ g ∧ Blk wo g 3 cs ∧ m ≤ cs.size := fun h0 => by
        obtain ⟨g, cs, e1, e2, e3, e4⟩ := HROW.out (by rw [HM.out]; exact h0)
        refine ⟨g, cs, e1, e2, e3.next (below_next HBE.out HR.out), ?_⟩
        have h1 : (L.map idVal)[m - 1]? = some ((L.map idVal)[m - 1]'(by rw [List.length_map, HM.out]; omega)) := List.getElem?_eq_getElem _
        have := (Array.getElem?_eq_some_iff.1 (e4 (m - 1) _ h1)).1
        omega
      have HST := Lib.hid hst
      clear hst
      go_wp2_with fail
      go_loopg [10] m (fun gk ix wr => ∃ j : Nat, j + gk = m ∧ ix = .int .i64 (j : Int) ∧ Below w.heap.size w wr ∧ (0 < m → ∃ (g : Nat) (cs : Array Value), Ao = some ⟨g, 0, none⟩ ∧ w.heap.size ≤ g ∧ Blk wr g 3 cs ∧ m ≤ cs.size))
      case atStart => exact ⟨0, by omega, rfl, HBO.out, HST.out⟩
      case round =>
        obtain ⟨j, hj, rfl, hbz, hg⟩ := hrel
        have HBZ := Lib.hid hbz
        have HG := Lib.hid hg
        clear hbz hg
        by_cases hjm : j < m
        · obtain ⟨gn, rfl⟩ : ∃ gn, gk = gn + 1 := ⟨gk - 1, by omega⟩
          obtain ⟨g, cs, rfl, hgl, hgb, hgs⟩ := HG.out (by omega)
          have k0 : World.cell? wr ⟨g, j, none⟩ = some (cs[j]'(by omega)) := hgb.get j (Array.getElem?_eq_getElem _)
          obtain ⟨u, hu⟩ : ∃ u, cs[j]'(by omega) = u := ⟨_, rfl⟩
          rw [hu] at k0
          have kf := hgb.frozen j
          have HGB := Lib.hid (And.intro hgl (And.intro hgb hgs))
          have q0 : (0 : Int) ≤ (j : Int) := by omega
          have q1 : (j : Int) < (m : Int) := by omega
          have e6 : wrap64 ((j : Int) + 1) = ((j + 1 : Nat) : Int) := by have := HML.out; unfold wrap64; omega
          clear hgl hgb hgs hu
          go_wp2_with fail
          go_roundg gn
          case rel => exact ⟨j + 1, by omega, by go_num, Below.setCell (p := ⟨g, j, none⟩) HBZ.out HGB.out.1 _, fun _ => ⟨g, _, rfl, HGB.out.1, HGB.out.2.1.put j _, by rw [Array.size_setIfInBounds]; exact HGB.out.2.2⟩⟩
          case measure => omega
        · obtain rfl : gk = 0 := by omega
          obtain rfl : j = m := by omega
          go_wp2_with fail
          go_ret
          exact ⟨by simp, HBZ.out⟩

end Go.Proofs.YtjhffbhjiflfeaaGreat

/-!
  VirtPlays holds.
-/
namespace Go.Proofs.YtjhffbhjiflfeaaGreat
set_option linter.unusedVariables false
set_option linter.unusedSimpArgs false
set_option maxRecDepth 100000
open Go.RowKit Go.Shelf

theorem longP_any (A : Option Addr) (n c : Nat) (w : World) (b : Bool) (hb : decide (150 < n) = b) : Calls Tryz.prog 7 #[.slice A n c] w fun e w' => e = .returned (.bool b) ∧ w = w' := by
  have hd : decide ((150 : Int) < (n : Int)) = b := by rw [← hb]; congr 1; apply propext; omega
  clear hb
  go_enter Tryz.func7, Tryz.ntmps7
  go_wp2_with fail
  go_ret
  exact ⟨by simp, rfl⟩
/-- What an act does, both families beside each other, what came in kept. -/
def ActTwo (w0 w' : World) (fd f mb N TB : Nat) (cs : Array Value) : Prop := ∃ vL S Ds, Two2 w0.heap.size w0 w' f mb fd vL S Ds N ∧ Blk w' TB 34 cs
set_option maxHeartbeats 16000000 in
theorem virtPlays_walk (w : World) (A : Option Addr) (n c : Nat) (K : Nat → Int) (fK : ∀ i, i < n → (Lit.int .u8 (K i)).wf = true) (I : Nat → Int) (fI : ∀ i, i < n → (Lit.int .i64 (I i)).wf = true) (F : Nat → Int) (fF : ∀ i, i < n → (Lit.int .u64 (F i)).wf = true) (L : Nat → Int) (fL : ∀ i, i < n → (Lit.int .u64 (L i)).wf = true) (R : Nat → Int) (fR : ∀ i, i < n → (Lit.int .u64 (R i)).wf = true) (G : Nat → Int) (fG : ∀ i, i < n → (Lit.int .u64 (G i)).wf = true) (hl : n ≤ c) (hm : c ≤ maxLen)
    (hA : 0 < n → ∃ b off, A = some ⟨b, off, none⟩ ∧ b < w.heap.size) (hK : ∀ b off, A = some ⟨b, off, none⟩ → ∀ i, i < n → w.cell? ⟨b, off + (i * 6 + 0), none⟩ = some (.int .u8 (K i))) (hI : ∀ b off, A = some ⟨b, off, none⟩ → ∀ i, i < n → w.cell? ⟨b, off + (i * 6 + 1), none⟩ = some (.int .i64 (I i)))
    (hF : ∀ b off, A = some ⟨b, off, none⟩ → ∀ i, i < n → w.cell? ⟨b, off + (i * 6 + 2), none⟩ = some (.int .u64 (F i))) (hL : ∀ b off, A = some ⟨b, off, none⟩ → ∀ i, i < n → w.cell? ⟨b, off + (i * 6 + 3), none⟩ = some (.int .u64 (L i))) (hR : ∀ b off, A = some ⟨b, off, none⟩ → ∀ i, i < n → w.cell? ⟨b, off + (i * 6 + 4), none⟩ = some (.int .u64 (R i))) (hG : ∀ b off, A = some ⟨b, off, none⟩ → ∀ i, i < n → w.cell? ⟨b, off + (i * 6 + 5), none⟩ = some (.int .u64 (G i)))
    (a : Int) (fa : (Lit.int .i64 a).wf = true) :
    Calls Tryz.prog 3 #[.slice A n c, .int .i64 a] w fun e w' => e = .returned (.bool true) ∧ Below w.heap.size w w' := by
  have HA : Hid (VActs w A n K I F L R G) := ⟨hA, fun b off h i hi => ⟨by simpa using hK b off h i hi, by simpa [Nat.add_assoc] using hI b off h i hi, by simpa [Nat.add_assoc] using hF b off h i hi, by simpa [Nat.add_assoc] using hL b off h i hi, by simpa [Nat.add_assoc] using hR b off h i hi, by simpa [Nat.add_assoc] using hG b off h i hi⟩⟩
  have HW := Lib.hid (And.intro (fun i hi => word_of_wf (fF i hi)) (And.intro (fun i hi => word_of_wf (fL i hi)) (And.intro (fun i hi => word_of_wf (fR i hi)) (fun i hi => word_of_wf (fG i hi)))))
  clear hA hK hI hF hL hR hG fK fI fF fL fR fG fa hl hm
  have LO := Lib.hid (fun w b hb => longP_any A n c w b hb)
  by_cases hn : 150 < n
  · have LT := Lib.hid (fun w => LO.out w true (decide_eq_true hn))
    clear hn LO
    go_enter Tryz.func3, Tryz.ntmps3
    go_wp2_with fail
    with_reducible refine (LT.out _).mono ?_
    rintro e wx ⟨rfl, rfl⟩
    go_wp2_with fail
    go_ret
    exact ⟨by simp, Below.refl _ _⟩
  have LT := Lib.hid (fun w => LO.out w false (decide_eq_false hn))
  have HN := Lib.hid (show n ≤ 150 by omega)
  clear hn LO
  go_enter Tryz.func3, Tryz.ntmps3
  go_wp2_with fail
  with_reducible refine (LT.out _).mono ?_
  rintro e wx ⟨rfl, rfl⟩
  go_wp2_with fail
  with_reducible refine (fi_new w).mono ?_
  rintro e wt ⟨f, mb, rfl, h2⟩
  have hbt : Below wt.heap.size wt (wt.alloc (.cells #[.slice none 0 0, .int .u64 0] 30)) := by go_grown
  have bt := Blk.new wt 30 #[.slice none 0 0, .int .u64 0]
  have h3 := h2.next hbt
  obtain ⟨ws, hws⟩ : ∃ z, wt.alloc (.cells #[.slice none 0 0, .int .u64 0] 30) = z := ⟨_, rfl⟩
  obtain ⟨fd, hfd⟩ : ∃ z, wt.heap.size = z := ⟨_, rfl⟩
  have hlo : w.heap.size ≤ fd := by rw [← hfd]; exact h2.below.size
  rw [hws] at h3 bt
  rw [hfd] at bt
  have H3 : Hid (Two2 w.heap.size w ws f mb fd (.slice none 0 0) ⟨0, []⟩ [] 0) := ⟨h3, ⟨hlo, bt, World.ownsRow_nil _ _ _ _, (fun d hd => by cases hd), List.Pairwise.nil, List.nodup_nil⟩, fs_none, Beside.nil⟩
  have HWS := Lib.hid hws
  have HFD := Lib.hid hfd
  clear h2 h3 hbt bt hws hlo hfd
  go_upto_region 6 with (fail)
  rw [HWS.out, HFD.out]
  go_wp2_with fail
  go_loopg [5, 7] n (fun gk fv ix wr => ∃ (i f mb : Nat) (vL : Value) (S : FS) (Ds : List DM), i + gk = n ∧ fv = .pointer (some ⟨f, 0, none⟩) ∧ ix = .int .i64 i ∧ Two2 w.heap.size w wr f mb fd vL S Ds i)
  case atStart => exact ⟨0, f, mb, _, _, _, by omega, rfl, rfl, H3.out⟩
  case round =>
    obtain ⟨i, f', mb', vL, S, Ds, hi, rfl, rfl, htwo⟩ := hrel
    have HF := Lib.hid htwo
    clear htwo H3 HWS HFD
    obtain ⟨wo, rfl⟩ : ∃ x : World, x = wr := ⟨_, rfl⟩
    by_cases hlt : i < n
    · obtain ⟨gm, rfl⟩ : ∃ gm, gk = gm + 1 := ⟨gk - 1, by omega⟩
      have HAA := HA.out.below HF.out.fam.below
      obtain ⟨bA, off, rfl, hbA⟩ := HAA.addr (by omega)
      obtain ⟨c0, c1, c2, c3, c4, c5⟩ := HAA.cells bA off rfl i hlt
      have p0 : (0 : Int) ≤ (i : Int) := by omega
      have p1 : (i : Int) < ((i + (gm + 1) : Nat) : Int) := by omega
      have p1' : (i : Int) < (n : Int) := by omega
      have HLT := Lib.hid (show i < 150 by have := HN.out; omega)
      have HII := Lib.hid hi
      go_upto_region 10 with (fail)
      obtain ⟨k, hk⟩ : ∃ z, K i = z := ⟨_, rfl⟩
      obtain ⟨id, hid⟩ : ∃ z, I i = z := ⟨_, rfl⟩
      obtain ⟨xF, hxF⟩ : ∃ z, F i = z := ⟨_, rfl⟩
      obtain ⟨xL, hxL⟩ : ∃ z, L i = z := ⟨_, rfl⟩
      obtain ⟨xR, hxR⟩ : ∃ z, R i = z := ⟨_, rfl⟩
      obtain ⟨g, hg⟩ : ∃ z, G i = z := ⟨_, rfl⟩
      rw [hk, hid, hxF, hxL, hxR, hg]
      have HWI : Hid (Word xF ∧ Word xL ∧ Word xR ∧ Word g) := by unfold Hid; rw [← hxF, ← hxL, ← hxR, ← hg]; exact ⟨HW.out.1 i hlt, HW.out.2.1 i hlt, HW.out.2.2.1 i hlt, HW.out.2.2.2 i hlt⟩
      clear hk hid hxF hxL hxR hg c0 c1 c2 c3 c4 c5 HAA hlt
      have hba : Below wo.heap.size wo (wo.alloc (.cells #[.int .u8 k, .int .i64 id, .int .u64 xF, .int .u64 xL, .int .u64 xR, .int .u64 g] 34)) := by go_grown
      have bx := Blk.new wo 34 #[.int .u8 k, .int .i64 id, .int .u64 xF, .int .u64 xL, .int .u64 xR, .int .u64 g]
      obtain ⟨wa, hwa⟩ : ∃ z, wo.alloc (.cells #[.int .u8 k, .int .i64 id, .int .u64 xF, .int .u64 xL, .int .u64 xR, .int .u64 g] 34) = z := ⟨_, rfl⟩
      obtain ⟨TB, hTB⟩ : ∃ z, wo.heap.size = z := ⟨_, rfl⟩
      rw [hwa] at hba bx ⊢
      rw [hTB] at bx ⊢
      have HX := Lib.hid (And.intro (HF.out.next hba) bx)
      clear hwa hba bx hTB
      have z0 := HX.out.2.get 0 rfl
      have e5 : wrap64 ((i : Int) + 1) = ((i + 1 : Nat) : Int) := by have := HN.out; have := HLT.out; unfold wrap64; omega
      obtain ⟨cs, hcs⟩ : ∃ z : Array Value, #[.int .u8 k, .int .i64 id, .int .u64 xF, .int .u64 xL, .int .u64 xR, .int .u64 g] = z := ⟨_, rfl⟩
      have HCS : Hid (cs[1]? = some (.int .i64 id) ∧ cs[2]? = some (.int .u64 xF) ∧ cs[3]? = some (.int .u64 xL) ∧ cs[4]? = some (.int .u64 xR) ∧ cs[5]? = some (.int .u64 g)) := by subst hcs; exact ⟨rfl, rfl, rfl, rfl, rfl⟩
      rw [hcs] at HX
      clear hcs
      obtain ⟨r, hr⟩ : ∃ r, k.tmod 6 = r := ⟨_, rfl⟩
      go_upto_block 2 with (fail)
      go_cut [5] (fun fv wc => ∃ f mb : Nat, fv = .pointer (some ⟨f, 0, none⟩) ∧ ActTwo w wc fd f mb (i + 1) TB cs)
      case first =>
        have HNI := Lib.hid (show i ≤ 65535 by have := HLT.out; omega)
        by_cases h0 : r = 0
        · subst h0
          obtain ⟨b, hb⟩ : ∃ z, addR id xF xL xR S = z := ⟨_, rfl⟩
          have A1 : Hid (∀ w', Two2 w.heap.size w w' f' mb' fd vL S Ds i → Calls Tryz.prog 9 #[.pointer (some ⟨f', 0, none⟩), .int .i64 id, .agg #[.int .u64 xF, .int .u64 xL, .int .u64 xR]] w' fun e w'' => e = .returned (.bool b) ∧ ∃ S', Added id xF xL xR S S' ∧ Half2 w.heap.size w w'' f' mb' fd vL S S' Ds i ∧ ActKept w' w'') := fun w' h => by rw [← hb]; exact p_add1 id xF xL xR h HWI.out.1 HWI.out.2.1 HWI.out.2.2.1
          have A2 : Hid (∀ w' S', Half2 w.heap.size w w' f' mb' fd vL S S' Ds i → Added id xF xL xR S S' → Calls Tryz.prog 10 #[.pointer (some ⟨fd, 0, none⟩), .int .i64 id, .agg #[.int .u64 xF, .int .u64 xL, .int .u64 xR]] w' fun e w'' => e = .returned (.bool b) ∧ (∃ vL' Ds', Two2 w.heap.size w w'' f' mb' fd vL' S' Ds' (i + 1)) ∧ ActKept w' w'') := fun w' S' h ha => by rw [← hb]; exact p_add2 id xF xL xR h ha HNI.out HWI.out.2.1
          clear hb
          have KQ : Hid (∀ w', Fr ((fun k => k ≠ TB)) wa w' → (w'.cell? ⟨TB, 1, none⟩ = some (.int .i64 id) ∧ w'.cell? ⟨TB, 2, none⟩ = some (.int .u64 xF) ∧ w'.cell? ⟨TB, 3, none⟩ = some (.int .u64 xL) ∧ w'.cell? ⟨TB, 4, none⟩ = some (.int .u64 xR)) ∧ Fr ((fun k => k ≠ TB)) wa w') := fun w' hb => ⟨⟨((HX.out.2.fr hb (fun h => h rfl)).get 1 HCS.out.1), ((HX.out.2.fr hb (fun h => h rfl)).get 2 HCS.out.2.1), ((HX.out.2.fr hb (fun h => h rfl)).get 3 HCS.out.2.2.1), ((HX.out.2.fr hb (fun h => h rfl)).get 4 HCS.out.2.2.2.1)⟩, hb⟩
          go_upto_region 19 with (fail)
          refine wp_region_noPanic ?_
          refine wp_region_held_drew (S := fun w' => (w'.cell? ⟨TB, 1, none⟩ = some (.int .i64 id) ∧ w'.cell? ⟨TB, 2, none⟩ = some (.int .u64 xF) ∧ w'.cell? ⟨TB, 3, none⟩ = some (.int .u64 xL) ∧ w'.cell? ⟨TB, 4, none⟩ = some (.int .u64 xR)) ∧ Fr ((fun k => k ≠ TB)) wa w') (by kernel_rfl) (KQ.out _ (Fr.drew ((Fr.refl (fun k => k ≠ TB) wa)))) (fun hH => ?_)
          have hbR := Fr.drew ((Fr.refl (fun k => k ≠ TB) wa))
          (refine wpAnyH_take (i := 0) (v := ?_) rfl ?_ ?_ ?_ (fun _ _ _ h => h) ?_ ?_ ?_; rotate_left; kernel_rfl; kernel_rfl; kernel_rfl; (focus (refine Or.inl ⟨by rfl, ?_⟩; intro w' hSw; (try dsimp only at hSw); go_simp; with_reducible rfl)); exact hH)
          try simp only [Act.put, List.getElem_toArray, List.getElem_cons_succ, List.getElem_cons_zero, List.setIfInBounds_toArray, List.set_cons_zero, List.set_cons_succ]
          (refine wpAnyH_take (i := 1) (v := ?_) rfl ?_ ?_ ?_ (fun _ _ _ h => h) ?_ ?_ ?_; rotate_left; kernel_rfl; kernel_rfl; kernel_rfl; (focus (refine Or.inl ⟨by rfl, ?_⟩; intro w' hSw; (try dsimp only at hSw); go_simp; with_reducible rfl)); exact hH)
          try simp only [Act.put, List.getElem_toArray, List.getElem_cons_succ, List.getElem_cons_zero, List.setIfInBounds_toArray, List.set_cons_zero, List.set_cons_succ]
          (refine wpAnyH_take (i := 2) (v := ?_) rfl ?_ ?_ ?_ (fun _ _ _ h => h) ?_ ?_ ?_; rotate_left; kernel_rfl; kernel_rfl; kernel_rfl; (focus (refine Or.inl ⟨by rfl, ?_⟩; intro w' hSw; (try dsimp only at hSw); go_simp; with_reducible rfl)); exact hH)
          try simp only [Act.put, List.getElem_toArray, List.getElem_cons_succ, List.getElem_cons_zero, List.setIfInBounds_toArray, List.set_cons_zero, List.set_cons_succ]
          (refine wpAnyH_take (i := 3) (v := ?_) rfl ?_ ?_ ?_ (fun _ _ _ h => h) ?_ ?_ ?_; rotate_left; kernel_rfl; kernel_rfl; kernel_rfl; (focus (refine Or.inl ⟨by rfl, ?_⟩; intro w' hSw; (try dsimp only at hSw); go_simp; with_reducible rfl)); exact hH)
          try simp only [Act.put, List.getElem_toArray, List.getElem_cons_succ, List.getElem_cons_zero, List.setIfInBounds_toArray, List.set_cons_zero, List.set_cons_succ]
          (refine wpAnyH_take (i := 4) (v := ?_) rfl ?_ ?_ ?_ (fun _ _ _ h => h) ?_ ?_ ?_; rotate_left; kernel_rfl; kernel_rfl; kernel_rfl; (focus (refine Or.inl ⟨by rfl, ?_⟩; intro w' hSw; (try dsimp only at hSw); go_simp; with_reducible rfl)); exact hH)
          try simp only [Act.put, List.getElem_toArray, List.getElem_cons_succ, List.getElem_cons_zero, List.setIfInBounds_toArray, List.set_cons_zero, List.set_cons_succ]
          (refine wpAnyH_take (i := 6) (v := ?_) rfl ?_ ?_ ?_ (fun _ _ _ h => h) ?_ ?_ ?_; rotate_left; kernel_rfl; kernel_rfl; kernel_rfl; (focus (refine Or.inl ⟨by rfl, ?_⟩; intro w' hSw; (try dsimp only at hSw); go_simp; with_reducible rfl)); exact hH)
          try simp only [Act.put, List.getElem_toArray, List.getElem_cons_succ, List.getElem_cons_zero, List.setIfInBounds_toArray, List.set_cons_zero, List.set_cons_succ]
          (refine wpAnyH_take (i := 7) (v := ?_) rfl ?_ ?_ ?_ (fun _ _ _ h => h) ?_ ?_ ?_; rotate_left; kernel_rfl; kernel_rfl; kernel_rfl; (focus (refine Or.inl ⟨by rfl, ?_⟩; intro w' hSw; (try dsimp only at hSw); go_simp; with_reducible rfl)); exact hH)
          try simp only [Act.put, List.getElem_toArray, List.getElem_cons_succ, List.getElem_cons_zero, List.setIfInBounds_toArray, List.set_cons_zero, List.set_cons_succ]
          (refine wpAnyH_take (i := 8) (v := ?_) rfl ?_ ?_ ?_ (fun _ _ _ h => h) ?_ ?_ ?_; rotate_left; kernel_rfl; kernel_rfl; kernel_rfl; (focus (refine Or.inl ⟨by rfl, ?_⟩; intro w' hSw; (try dsimp only at hSw); go_simp; with_reducible rfl)); exact hH)
          try simp only [Act.put, List.getElem_toArray, List.getElem_cons_succ, List.getElem_cons_zero, List.setIfInBounds_toArray, List.set_cons_zero, List.set_cons_succ]
          (refine wpAnyH_take (i := 9) (v := ?_) rfl ?_ ?_ ?_ (fun _ _ _ h => h) ?_ ?_ ?_; rotate_left; kernel_rfl; kernel_rfl; kernel_rfl; (focus (refine Or.inl ⟨by rfl, ?_⟩; intro w' hSw; (try dsimp only at hSw); go_simp; with_reducible rfl)); exact hH)
          try simp only [Act.put, List.getElem_toArray, List.getElem_cons_succ, List.getElem_cons_zero, List.setIfInBounds_toArray, List.set_cons_zero, List.set_cons_succ]
          (refine wpAnyH_take (i := 10) (v := ?_) rfl ?_ ?_ ?_ (fun _ _ _ h => h) ?_ ?_ ?_; rotate_left; kernel_rfl; kernel_rfl; kernel_rfl; (focus (refine Or.inl ⟨by rfl, ?_⟩; intro w' hSw; (try dsimp only at hSw); go_simp; with_reducible rfl)); exact hH)
          try simp only [Act.put, List.getElem_toArray, List.getElem_cons_succ, List.getElem_cons_zero, List.setIfInBounds_toArray, List.set_cons_zero, List.set_cons_succ]
          refine wpAnyH_ready (rs := [5]) (by kernel_rfl) (by simp) ?_
          refine (AllReadyH.cons rfl (fun K hK => ?_) AllReadyH.nil)
          go_simp
          with_reducible refine (A1.out _ (HX.out.1.next (below_of_drew (Below.refl _ _)))).mono ?_
          rintro e w1 ⟨rfl, S', had, hh, ak⟩
          have fr1 : Fr (fun k => k ≠ TB) wa w1 := hH.2.trans (ak.fr (HX.out.2.fr hH.2 (fun h => h rfl)))
          have HA5 := Lib.hid (And.intro had hh)
          clear had hh ak
          refine hK.out _ _ (KQ.out _ fr1) (fun hH1 => ?_)
          clear hK K hH
          have hH := hH1
          clear hH1
          try simp only [Act.put, List.getElem_toArray, List.getElem_cons_succ, List.getElem_cons_zero, List.setIfInBounds_toArray, List.set_cons_zero, List.set_cons_succ]
          refine wpAnyH_ready (rs := [11]) (by kernel_rfl) (by simp) ?_
          refine (AllReadyH.cons rfl (fun K hK => ?_) AllReadyH.nil)
          go_simp
          with_reducible refine (A2.out _ _ HA5.out.2 HA5.out.1).mono ?_
          rintro e w2 ⟨rfl, ⟨vL', Ds', htw⟩, ak⟩
          have fr2 : Fr (fun k => k ≠ TB) wa w2 := hH.2.trans (ak.fr (HX.out.2.fr hH.2 (fun h => h rfl)))
          have HZ := Lib.hid (show ActTwo w w2 fd f' mb' (i + 1) TB cs from ⟨vL', S', Ds', htw, HX.out.2.fr fr2 (fun h => h rfl)⟩)
          clear htw ak
          refine hK.out _ _ (KQ.out _ fr2) (fun hH2 => ?_)
          clear hK K hH
          have hH := hH2
          clear hH2
          try simp only [Act.put, List.getElem_toArray, List.getElem_cons_succ, List.getElem_cons_zero, List.setIfInBounds_toArray, List.set_cons_zero, List.set_cons_succ]
          (refine wpAnyH_take (i := 12) (v := ?_) rfl ?_ ?_ ?_ (fun _ _ _ h => h) ?_ ?_ ?_; rotate_left; kernel_rfl; kernel_rfl; kernel_rfl; (focus (refine Or.inl ⟨by rfl, ?_⟩; intro w' hSw; (try dsimp only at hSw); go_simp; with_reducible rfl)); exact hH)
          try simp only [Act.put, List.getElem_toArray, List.getElem_cons_succ, List.getElem_cons_zero, List.setIfInBounds_toArray, List.set_cons_zero, List.set_cons_succ]
          refine wpAnyH_done (by kernel_rfl) ?_ _
          refine NoPanic.normal ?_
          clear hH
          go_wp2_with fail
          go_meet
          exact ⟨f', mb', rfl, HZ.out⟩
        have n0 : (r == 0) = false := beq_eq_false_iff_ne.2 h0
        have n0' : decide (r = 0) = false := decide_eq_false h0
        clear h0
        by_cases h1 : r = 1
        · subst h1
          obtain ⟨b, hb⟩ : ∃ z, (fnd id S.L).isSome = z := ⟨_, rfl⟩
          have A1 : Hid (∀ w', Two2 w.heap.size w w' f' mb' fd vL S Ds i → Calls Tryz.prog 11 #[.pointer (some ⟨f', 0, none⟩), .int .i64 id] w' fun e w'' => e = .returned (.bool b) ∧ Half2 w.heap.size w w'' f' mb' fd vL S (S.drop id) Ds i ∧ ActKept w' w'') := fun w' h => by rw [← hb]; exact p_drop1 id h
          have A2 : Hid (∀ w', Half2 w.heap.size w w' f' mb' fd vL S (S.drop id) Ds i → Calls Tryz.prog 12 #[.pointer (some ⟨fd, 0, none⟩), .int .i64 id] w' fun e w'' => e = .returned (.bool b) ∧ (∃ vL' Ds', Two2 w.heap.size w w'' f' mb' fd vL' (S.drop id) Ds' i) ∧ ActKept w' w'') := fun w' h => by rw [← hb]; exact p_drop2 id h HNI.out
          clear hb
          have KQ : Hid (∀ w', Fr ((fun k => k ≠ TB)) wa w' → (w'.cell? ⟨TB, 1, none⟩ = some (.int .i64 id)) ∧ Fr ((fun k => k ≠ TB)) wa w') := fun w' hb => ⟨((HX.out.2.fr hb (fun h => h rfl)).get 1 HCS.out.1), hb⟩
          go_upto_region 22 with (fail)
          refine wp_region_noPanic ?_
          refine wp_region_held_drew (S := fun w' => (w'.cell? ⟨TB, 1, none⟩ = some (.int .i64 id)) ∧ Fr ((fun k => k ≠ TB)) wa w') (by kernel_rfl) (KQ.out _ (Fr.drew ((Fr.refl (fun k => k ≠ TB) wa)))) (fun hH => ?_)
          have hbR := Fr.drew ((Fr.refl (fun k => k ≠ TB) wa))
          (refine wpAnyH_take (i := 0) (v := ?_) rfl ?_ ?_ ?_ (fun _ _ _ h => h) ?_ ?_ ?_; rotate_left; kernel_rfl; kernel_rfl; kernel_rfl; (focus (refine Or.inl ⟨by rfl, ?_⟩; intro w' hSw; (try dsimp only at hSw); go_simp; with_reducible rfl)); exact hH)
          try simp only [Act.put, List.getElem_toArray, List.getElem_cons_succ, List.getElem_cons_zero, List.setIfInBounds_toArray, List.set_cons_zero, List.set_cons_succ]
          (refine wpAnyH_take (i := 1) (v := ?_) rfl ?_ ?_ ?_ (fun _ _ _ h => h) ?_ ?_ ?_; rotate_left; kernel_rfl; kernel_rfl; kernel_rfl; (focus (refine Or.inl ⟨by rfl, ?_⟩; intro w' hSw; (try dsimp only at hSw); go_simp; with_reducible rfl)); exact hH)
          try simp only [Act.put, List.getElem_toArray, List.getElem_cons_succ, List.getElem_cons_zero, List.setIfInBounds_toArray, List.set_cons_zero, List.set_cons_succ]
          (refine wpAnyH_take (i := 2) (v := ?_) rfl ?_ ?_ ?_ (fun _ _ _ h => h) ?_ ?_ ?_; rotate_left; kernel_rfl; kernel_rfl; kernel_rfl; (focus (refine Or.inl ⟨by rfl, ?_⟩; intro w' hSw; (try dsimp only at hSw); go_simp; with_reducible rfl)); exact hH)
          try simp only [Act.put, List.getElem_toArray, List.getElem_cons_succ, List.getElem_cons_zero, List.setIfInBounds_toArray, List.set_cons_zero, List.set_cons_succ]
          (refine wpAnyH_take (i := 4) (v := ?_) rfl ?_ ?_ ?_ (fun _ _ _ h => h) ?_ ?_ ?_; rotate_left; kernel_rfl; kernel_rfl; kernel_rfl; (focus (refine Or.inl ⟨by rfl, ?_⟩; intro w' hSw; (try dsimp only at hSw); go_simp; with_reducible rfl)); exact hH)
          try simp only [Act.put, List.getElem_toArray, List.getElem_cons_succ, List.getElem_cons_zero, List.setIfInBounds_toArray, List.set_cons_zero, List.set_cons_succ]
          (refine wpAnyH_take (i := 5) (v := ?_) rfl ?_ ?_ ?_ (fun _ _ _ h => h) ?_ ?_ ?_; rotate_left; kernel_rfl; kernel_rfl; kernel_rfl; (focus (refine Or.inl ⟨by rfl, ?_⟩; intro w' hSw; (try dsimp only at hSw); go_simp; with_reducible rfl)); exact hH)
          try simp only [Act.put, List.getElem_toArray, List.getElem_cons_succ, List.getElem_cons_zero, List.setIfInBounds_toArray, List.set_cons_zero, List.set_cons_succ]
          (refine wpAnyH_take (i := 6) (v := ?_) rfl ?_ ?_ ?_ (fun _ _ _ h => h) ?_ ?_ ?_; rotate_left; kernel_rfl; kernel_rfl; kernel_rfl; (focus (refine Or.inl ⟨by rfl, ?_⟩; intro w' hSw; (try dsimp only at hSw); go_simp; with_reducible rfl)); exact hH)
          try simp only [Act.put, List.getElem_toArray, List.getElem_cons_succ, List.getElem_cons_zero, List.setIfInBounds_toArray, List.set_cons_zero, List.set_cons_succ]
          refine wpAnyH_ready (rs := [3]) (by kernel_rfl) (by simp) ?_
          refine (AllReadyH.cons rfl (fun K hK => ?_) AllReadyH.nil)
          go_simp
          with_reducible refine (A1.out _ (HX.out.1.next (below_of_drew (Below.refl _ _)))).mono ?_
          rintro e w1 ⟨rfl, hh, ak⟩
          have fr1 : Fr (fun k => k ≠ TB) wa w1 := hH.2.trans (ak.fr (HX.out.2.fr hH.2 (fun h => h rfl)))
          have HA5 := Lib.hid hh
          clear hh ak
          refine hK.out _ _ (KQ.out _ fr1) (fun hH1 => ?_)
          clear hK K hH
          have hH := hH1
          clear hH1
          try simp only [Act.put, List.getElem_toArray, List.getElem_cons_succ, List.getElem_cons_zero, List.setIfInBounds_toArray, List.set_cons_zero, List.set_cons_succ]
          refine wpAnyH_ready (rs := [7]) (by kernel_rfl) (by simp) ?_
          refine (AllReadyH.cons rfl (fun K hK => ?_) AllReadyH.nil)
          go_simp
          with_reducible refine (A2.out _ HA5.out).mono ?_
          rintro e w2 ⟨rfl, ⟨vL', Ds', htw⟩, ak⟩
          have fr2 : Fr (fun k => k ≠ TB) wa w2 := hH.2.trans (ak.fr (HX.out.2.fr hH.2 (fun h => h rfl)))
          have HZ := Lib.hid (show ActTwo w w2 fd f' mb' (i + 1) TB cs from ⟨vL', _, Ds', htw.more (Nat.le_succ _), HX.out.2.fr fr2 (fun h => h rfl)⟩)
          clear htw ak
          refine hK.out _ _ (KQ.out _ fr2) (fun hH2 => ?_)
          clear hK K hH
          have hH := hH2
          clear hH2
          try simp only [Act.put, List.getElem_toArray, List.getElem_cons_succ, List.getElem_cons_zero, List.setIfInBounds_toArray, List.set_cons_zero, List.set_cons_succ]
          (refine wpAnyH_take (i := 8) (v := ?_) rfl ?_ ?_ ?_ (fun _ _ _ h => h) ?_ ?_ ?_; rotate_left; kernel_rfl; kernel_rfl; kernel_rfl; (focus (refine Or.inl ⟨by rfl, ?_⟩; intro w' hSw; (try dsimp only at hSw); go_simp; with_reducible rfl)); exact hH)
          try simp only [Act.put, List.getElem_toArray, List.getElem_cons_succ, List.getElem_cons_zero, List.setIfInBounds_toArray, List.set_cons_zero, List.set_cons_succ]
          refine wpAnyH_done (by kernel_rfl) ?_ _
          refine NoPanic.normal ?_
          clear hH
          go_wp2_with fail
          go_meet
          exact ⟨f', mb', rfl, HZ.out⟩
        have n1 : (r == 1) = false := beq_eq_false_iff_ne.2 h1
        have n1' : decide (r = 1) = false := decide_eq_false h1
        clear h1

        by_cases h2 : r = 2
        · subst h2
          have A1 := Lib.hid (fun w' (h : Two2 w.heap.size w w' f' mb' fd vL S Ds i) => p_wake1 id h HNI.out)
          have A2 := Lib.hid (fun w' (h : Half2 w.heap.size w w' f' mb' fd vL S (S.wake id) Ds i) => p_wake2 id h HNI.out)
          have z1 := HX.out.2.get 1 HCS.out.1
          go_wp2_with fail
          with_reducible refine (A1.out wa HX.out.1).mono ?_
          rintro e w2 ⟨rfl, hh, ak⟩
          have b2 := ak.act HX.out.2
          have H2 := Lib.hid (And.intro hh b2)
          clear z0 z1
          have z1 := b2.get 1 HCS.out.1
          clear hh ak b2 A1
          go_wp2_with fail
          with_reducible refine (A2.out w2 H2.out.1).mono ?_
          rintro e w3 ⟨rfl, ⟨vL', Ds', htw⟩, ak⟩
          have HZ := Lib.hid (show ActTwo w w3 fd f' mb' (i + 1) TB cs from ⟨vL', _, Ds', htw, ak.act H2.out.2⟩)
          clear htw ak z1
          go_wp2_with fail
          go_meet
          exact ⟨f', mb', rfl, HZ.out⟩
        have n2 : (r == 2) = false := beq_eq_false_iff_ne.2 h2
        have n2' : decide (r = 2) = false := decide_eq_false h2
        clear h2

        by_cases h3 : r = 3
        · subst h3
          have A1 := Lib.hid (fun w' (h : Two2 w.heap.size w w' f' mb' fd vL S Ds i) => p_sleep1 id h)
          have A2 := Lib.hid (fun w' (h : Half2 w.heap.size w w' f' mb' fd vL S (S.sleep id) Ds i) => p_sleep2 id h HNI.out)
          have z1 := HX.out.2.get 1 HCS.out.1
          go_wp2_with fail
          with_reducible refine (A1.out wa HX.out.1).mono ?_
          rintro e w2 ⟨rfl, hh, ak⟩
          have b2 := ak.act HX.out.2
          have H2 := Lib.hid (And.intro hh b2)
          clear z0 z1
          have z1 := b2.get 1 HCS.out.1
          clear hh ak b2 A1
          go_wp2_with fail
          with_reducible refine (A2.out w2 H2.out.1).mono ?_
          rintro e w3 ⟨rfl, ⟨vL', Ds', htw⟩, ak⟩
          have HZ := Lib.hid (show ActTwo w w3 fd f' mb' (i + 1) TB cs from ⟨vL', _, Ds', htw.more (Nat.le_succ _), ak.act H2.out.2⟩)
          clear htw ak z1
          go_wp2_with fail
          go_meet
          exact ⟨f', mb', rfl, HZ.out⟩
        have n3 : (r == 3) = false := beq_eq_false_iff_ne.2 h3
        have n3' : decide (r = 3) = false := decide_eq_false h3
        clear h3

        by_cases h4 : r = 4
        · subst h4
          have A1 := Lib.hid (fun w' (h : Two2 w.heap.size w w' f' mb' fd vL S Ds i) => p_gain1 id g h HNI.out HWI.out.2.2.2)
          have A2 := Lib.hid (fun w' (h : Half2 w.heap.size w w' f' mb' fd vL S (S.gain id g) Ds i) => p_gain2 id g h HNI.out HWI.out.2.2.2)
          have z1 := HX.out.2.get 1 HCS.out.1
          have z5 := HX.out.2.get 5 HCS.out.2.2.2.2
          go_wp2_with fail
          with_reducible refine (A1.out wa HX.out.1).mono ?_
          rintro e w2 ⟨rfl, hh, ak⟩
          have b2 := ak.act HX.out.2
          have H2 := Lib.hid (And.intro hh b2)
          clear z0 z1 z5
          have z1 := b2.get 1 HCS.out.1
          have z5 := b2.get 5 HCS.out.2.2.2.2
          clear hh ak b2 A1
          go_wp2_with fail
          with_reducible refine (A2.out w2 H2.out.1).mono ?_
          rintro e w3 ⟨rfl, ⟨vL', Ds', htw⟩, ak⟩
          have HZ := Lib.hid (show ActTwo w w3 fd f' mb' (i + 1) TB cs from ⟨vL', _, Ds', htw.more (Nat.le_succ _), ak.act H2.out.2⟩)
          clear htw ak z1 z5
          go_wp2_with fail
          go_meet
          exact ⟨f', mb', rfl, HZ.out⟩
        have n4 : (r == 4) = false := beq_eq_false_iff_ne.2 h4
        have n4' : decide (r = 4) = false := decide_eq_false h4
        clear h4

        have CP := Lib.hid (el_copy HX.out.1 HNI.out)
        go_wp2_with fail
        with_reducible refine (CP.out).mono ?_
        rintro e w2 ⟨out, m2, S2, rfl, hel, ak⟩
        have b2 := ak.act HX.out.2
        have H2 := Lib.hid (And.intro hel b2)
        clear z0
        have z1 := b2.get 1 HCS.out.1
        clear hel ak b2 CP
        have GA := Lib.hid (el_gain id 999 H2.out.1 HNI.out (by decide))
        go_wp2_with fail
        with_reducible refine (GA.out).mono ?_
        rintro e w3 ⟨rfl, hel, ak⟩
        have b3 := ak.act H2.out.2
        have H3 := Lib.hid (And.intro hel b3)
        clear z1
        have z1 := b3.get 1 HCS.out.1
        clear hel ak b3 GA
        have WA := Lib.hid (el_wake id H3.out.1 HNI.out)
        go_wp2_with fail
        with_reducible refine (WA.out).mono ?_
        rintro e w4 ⟨rfl, hel, ak⟩
        have H4 := Lib.hid (And.intro hel (ak.act H3.out.2))
        clear z1 hel ak WA
        have DR := Lib.hid (el_drop a H4.out.1)
        go_wp2_with fail
        with_reducible refine (DR.out).mono ?_
        rintro e w5 ⟨⟨b, rfl⟩, hel, ak⟩
        have HZ := Lib.hid (show ActTwo w w5 fd out m2 (i + 1) TB cs from ⟨vL, S2, Ds, hel.two.more (Nat.le_succ _), ak.act H4.out.2⟩)
        clear hel ak DR
        go_wp2_with fail
        go_meet
        exact ⟨out, m2, rfl, HZ.out⟩
      case rest =>
        obtain ⟨f2, mb2, rfl, vL2, S2, Ds2, h2, hb2⟩ := hcut
        have H5 := Lib.hid (And.intro h2 hb2)
        have SA := Lib.hid (fun w' id (hb : Below wc.heap.size wc w') => same_any w.heap.size w w' f2 mb2 fd vL2 S2 Ds2 (i + 1) id (h2.next hb) (by have := HLT.out; omega))
        clear h2 hb2 z0
        go_wp2_with fail
        with_reducible refine (SA.out wc a (Below.refl _ _)).mono ?_
        rintro e w3 ⟨rfl, hb3⟩
        have z1 := (H5.out.2.next hb3).get 1 HCS.out.1
        have HB3 := Lib.hid hb3
        clear hb3
        go_wp2_with fail
        with_reducible refine (SA.out w3 id HB3.out).mono ?_
        rintro e w4 ⟨rfl, hb4⟩
        have HZ := Lib.hid (H5.out.1.next (below_next HB3.out hb4))
        clear hb4
        go_wp2_with fail
        go_roundg gm
        case rel => exact ⟨i + 1, f2, mb2, vL2, S2, Ds2, by have := HII.out; omega, rfl, by go_num, HZ.out⟩
        case measure => omega
    · obtain rfl : gk = 0 := by omega
      have d1 : decide ((i : Int) < (n : Int)) = false := decide_eq_false (by omega)
      have d2 : decide (i < n) = false := decide_eq_false hlt
      have SA := Lib.hid (same_any w.heap.size w wo f' mb' fd vL S Ds i a HF.out (by have := HN.out; omega))
      clear hlt
      go_wp2_with fail
      with_reducible refine (SA.out).mono ?_
      rintro e w2 ⟨rfl, hb2⟩
      have HZ := Lib.hid (HF.out.next hb2).fam.below
      clear hb2
      go_wp2_with fail
      go_ret
      exact ⟨by simp, HZ.out⟩

end Go.Proofs.YtjhffbhjiflfeaaGreat
