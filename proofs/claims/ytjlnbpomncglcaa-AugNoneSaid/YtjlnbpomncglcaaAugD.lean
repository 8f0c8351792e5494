/-
  Aug's trees: ids, a copy.
-/
import Derived.Test.YtjlnbpomncglcaaProg
import Derived.Test.YtjlnbpomncglcaaAugC
import Derived.Test.YtjlnbpomncglcaaRBHU
import Derived.Test.YtjlnbpomncglcaaRBHS
import Derived.Maps.AppendAt
namespace Go.Proofs.Ytjlnbpomncglcaa
set_option linter.unusedVariables false
set_option linter.unusedSimpArgs false
set_option maxRecDepth 100000
open Go.RowKit Go.Shelf

attribute [local go_sem] Oper.semAt_some

theorem own_less {w : World} {B B' : Nat} {e : TypeId} {size n : Nat} {v : Value} {xs : List Value} (h : w.ownsRow B e size v n xs) (hb : B' ≤ B) : w.ownsRow B' e size v n xs := by
  obtain ⟨h1, h2⟩ := h
  refine ⟨h1, ?_⟩
  rcases h2 with h2 | ⟨g, c, cur, a1, a2, a3⟩
  · exact Or.inl h2
  · exact Or.inr ⟨g, c, cur, a1, Nat.le_trans hb a2, a3⟩
theorem own_ne {W : World} {base b : Nat} {e : TypeId} {size n : Nat} {v : Value} {xs : List Value} (h : W.ownsRow base e size v n xs) (hb : b < base) : some b ≠ v.ownBlock := by
  rcases h.2 with ⟨rfl, _⟩ | ⟨g, cap, cur, rfl, hg, _⟩
  · intro e; cases e
  · intro e; simp only [Value.ownBlock, Option.some.injEq] at e; omega
theorem own_ge {W : World} {base : Nat} {e : TypeId} {size n : Nat} {v : Value} {xs : List Value} (h : W.ownsRow base e size v n xs) {k : Nat} (hk : v.ownBlock = some k) : base ≤ k := by
  rcases h.2 with ⟨rfl, _⟩ | ⟨g, cap, cur, rfl, hg, _⟩
  · cases hk
  · simp only [Value.ownBlock, Option.some.injEq] at hk; omega
/-- Ids as cells. -/
def idCells (L : Row) : List Value := L.map fun p => .int .i64 p.1.2
theorem take_ids {L : Row} {k : Nat} {p : RK × Int} (h : L[k]? = some p) : idCells (L.take (k + 1)) = idCells (L.take k) ++ [.int .i64 p.1.2] := by
  unfold idCells
  rw [List.take_add_one, h]
  simp
set_option maxHeartbeats 4000000 in
theorem ag_ids (U : Nat) (S : Nat → Prop) (L : Row) (w : World) (h : Aug w S U L) (hf : L.length ≤ 65535) :
    Calls Try.prog 48 #[.pointer (some ⟨U, 0, none⟩)] w fun e w' => ∃ v, e = .returned v ∧ w'.ownsRow w.heap.size 3 1 v L.length (idCells L) ∧ Below w.heap.size w w' := by
  obtain ⟨T, m, t, M, hm⟩ := h
  have H := Lib.hid hm
  have hfew := Lib.hid hf
  clear hm hf
  refine calls_of_wp_marks Try.func48 rfl ?_
  simp only [Try.ntmps48, List.size_toArray, List.length_cons, List.length_nil, Nat.reduceAdd, Nat.reduceSub, Array.replicate_succ, Array.replicate_zero, List.push_toArray, List.append_toArray, List.nil_append, List.cons_append]
  obtain ⟨w0, hw0⟩ : ∃ x, w.alloc (.cells #[.slice none 0 0] 80) = x := ⟨_, rfl⟩
  have hb0 : Below w.heap.size w w0 := by rw [← hw0]; go_grown
  have bO : Blk w0 w.heap.size 80 #[.slice none 0 0] := by rw [← hw0]; exact Blk.new w _ _
  have hz0 : w0.heap.size = w.heap.size + 1 := by rw [← hw0]; simp
  have H0 := Lib.hid (And.intro (H.out.next hb0) (And.intro hb0 (And.intro bO hz0)))
  have HEQ := Lib.hid hw0
  clear hw0 hb0 bO hz0
  go_wp2_with fail
  rw [HEQ.out]
  with_reducible refine (ag_of w0 U _ _ H0.out.1.blk).mono ?_
  rintro e wx ⟨rfl, rfl⟩
  go_wp2_with fail
  with_reducible refine (rh_Each _ rfl _).mono ?_
  rintro e w1 ⟨rfl, rfl⟩
  go_wp2_with fail
  have bT := Blk.new w0 98 #[.pointer (some ⟨T, 0, none⟩)]
  have bO := H0.out.2.2.1.alloc (.cells #[.pointer (some ⟨T, 0, none⟩)] 98)
  have hB0 : Below w.heap.size w (w0.alloc (.cells #[.pointer (some ⟨T, 0, none⟩)] 98)) := H0.out.2.1.alloc H0.out.2.1.size _
  have hsz : (w0.alloc (.cells #[.pointer (some ⟨T, 0, none⟩)] 98)).heap.size = w.heap.size + 2 := by simp [H0.out.2.2.2]
  rw [H0.out.2.2.2] at bT ⊢
  obtain ⟨W0, hW0⟩ : ∃ W0, w0.alloc (.cells #[.pointer (some ⟨T, 0, none⟩)] 98) = W0 := ⟨_, rfl⟩
  rw [hW0] at bO bT hB0 hsz ⊢
  clear hW0
  have htl := H.out.tree.blk.lt
  have hTL := Lib.hid (And.intro htl (fun x (hx : x ∈ t.blocks) => RepH.lt H.out.tree.rep x hx))
  have hlt : L.length = t.items.length := by rw [H.out.items]
  have HLN := Lib.hid hlt
  have HIT := Lib.hid H.out.items
  refine wp_range (gf := 104) (lb := #[.pointer (some ⟨w.heap.size + 1, 0, none⟩)]) rfl (enters_of Try.func104 (by kernel_rfl) rfl) (rh_yields T (w.heap.size + 1) t) (fun _ _ => rfl)
    (fun k W => (∃ v, Blk W w.heap.size 80 #[v] ∧ W.ownsRow (W0.heap.size + 2) 3 1 v k (idCells (t.items.take k))) ∧ TrIsH W T t ∧ Blk W (w.heap.size + 1) 98 #[.pointer (some ⟨T, 0, none⟩)] ∧ Below w.heap.size w W ∧ w.heap.size + 2 ≤ W.heap.size)
    (fun _ _ _ => False) ?hI (fun _ _ _ _ h _ => h) (fun k A h => ⟨h.2.1, h.2.2.1⟩) ?h0 ?hround ?hdone (fun _ _ _ _ h _ => h.elim)
  case hI =>
    rintro k A C ⟨⟨v, h1, h2⟩, h3, h4, h5, h6⟩ hs
    exact ⟨⟨v, h1.stays hs, ownsRow_stays h2 hs⟩, h3.stays hs, h4.stays hs, below_stays h5 hs (by omega), Nat.le_trans h6 hs.size⟩
  case h0 => exact ⟨⟨_, bO, World.ownsRow_nil _ _ _ _⟩, H.out.tree.next hB0, bT, hB0, by omega⟩
  case hround =>
    rintro k W hk ⟨⟨v, h1, h2⟩, h3, h4, h5, h6⟩ hlt2
    obtain ⟨kk, vv, q1⟩ : ∃ kk vv, t.items[k]? = some (kk, vv) := ⟨(t.items[k]).1, (t.items[k]).2, List.getElem?_eq_getElem hk⟩
    rw [encRB_at q1]
    have HI1 := Lib.hid (And.intro h1 (And.intro h2 (And.intro h3 (And.intro h4 (And.intro h5 h6)))))
    have HK := Lib.hid hk
    have HQ := Lib.hid q1
    clear h1 h2 h3 h4 h5 h6 q1 hk bO bT hB0 htl hlt
    gi_wp2
    refine ⟨(Holds.refl hlt2).alloc _, fun W2 hs => ?_⟩
    obtain ⟨OB, hOB⟩ : ∃ x, x = (.cells #[.int .u64 kk.1, .int .i64 kk.2] 31 : Obj) := ⟨_, rfl⟩
    have hbA : Below W.heap.size W (W.alloc OB) := (Below.refl _ _).alloc (Nat.le_refl _) _
    rw [← hOB] at hs
    have tN : Blk W2 W.heap.size 31 #[.int .u64 kk.1, .int .i64 kk.2] := by rw [hOB] at hs; exact (Blk.new W _ _).stays hs
    have HI := Lib.hid (And.intro (Blk.stays (HI1.out.1.alloc OB) hs) (And.intro (ownsRow_stays (HI1.out.2.1.alloc OB) hs) (And.intro ((HI1.out.2.2.1.next hbA).stays hs) (And.intro (Blk.stays (HI1.out.2.2.2.1.alloc OB) hs) (And.intro (below_stays (HI1.out.2.2.2.2.1.trans (hbA.mono HI1.out.2.2.2.2.1.size)) hs (by omega)) (Nat.le_trans HI1.out.2.2.2.2.2 (Nat.le_trans hbA.size hs.size)))))))
    have HS2 : Hid (W0.heap.size + 1 < W2.heap.size) := Nat.lt_of_lt_of_le hlt2 (Nat.le_trans hbA.size hs.size)
    have k1 := tN.get 1 rfl
    have c1 := HI.out.1.get 0 rfl
    have f1 := HI.out.1.frozen 0
    clear hs hbA hOB hlt2 tN
    obtain ⟨i0, hi0, hz0, hs0, hb0⟩ := info_parts (show (Try.prog.info? 3).map (fun i => (i.zero, i.size, i.bytes)) = some (some (.int .i64 0), 1, 8) by kernel_rfl)
    have HIF := Lib.hid (And.intro hi0 (And.intro hz0 (And.intro hs0 hb0)))
    clear hi0 hz0 hs0 hb0
    gi_wp2_with (gi_at_builtin; refine wpListIn_append_own _ rfl (.tmp 10) (.tmp 13) 80 rfl (W0.heap.size + 2) 3 i0 (.int .i64 0) 1 8 Try.underlying80 HIF.out.1 HIF.out.2.1 HIF.out.2.2.1 HIF.out.2.2.2 rfl (by decide) _ _ _ rfl (HI.out.2.1.alloc _) ⟨W2.heap.size, 0, none⟩ 1 1 [.int .i64 kk.2] rfl rfl (cell_one_new _ _ _) (by simp [Value.oneCell']) (by have := hfew.out; have := HK.out; have := HLN.out; unfold maxLen; omega) (by have := hfew.out; have := HK.out; have := HLN.out; omega) (by have := HS2.out; simp; omega) ?_; intro v' w1 hown' hgrow _; obtain ⟨g', cap', rfl⟩ := ownsRow_succ hown'; have HO := Lib.hid (And.intro hown' hgrow); clear hown' hgrow; have b1 := (HI.out.1.alloc _).grown HO.out.2 (own_ne HI.out.2.1 (by omega)); have c2 := b1.get 0 rfl; have f2 := b1.frozen 0)
    have F : Fr (fun j => w.heap.size ≤ j) W2 (w1.setCell ⟨w.heap.size, 0, none⟩ (Value.slice (some ⟨g', 0, none⟩) (k + 1) cap')) := (((Fr.refl _ W2).alloc _).grown HO.out.2 (fun j e _ => by have := own_ge HI.out.2.1 e; omega)).setCell (p := ⟨w.heap.size, 0, none⟩) (fun _ => show w.heap.size ≤ w.heap.size from Nat.le_refl _) _
    refine ⟨(((Holds.refl HS2.out).alloc _).grown HO.out.2 (own_ne HI.out.2.1 (by omega)) (own_ne HI.out.2.1 (by omega))).set (p := ⟨w.heap.size, 0, none⟩) (show w.heap.size ≠ W0.heap.size by omega) (show w.heap.size ≠ W0.heap.size + 1 by omega) _, ⟨_, b1.put 0 _, ?_⟩, HI.out.2.2.1.fr F (fun hn => by have := hTL.out.1; omega) (fun x hx hn => by have := hTL.out.2 x hx; omega), (((HI.out.2.2.2.1.alloc _).grown HO.out.2 (own_ne HI.out.2.1 (by omega))).far (p := ⟨w.heap.size, 0, none⟩) (show w.heap.size + 1 ≠ w.heap.size by omega) _), HI.out.2.2.2.2.1.trans (F.below (by have := HI.out.2.2.2.2.2; omega) (fun j hj hn => by omega)), Nat.le_trans HI.out.2.2.2.2.2 F.size⟩
    rw [take_ids HQ.out]
    exact ownsRow_setCell_below HO.out.1 (show w.heap.size < W0.heap.size + 2 by omega) _
  case hdone =>
    rintro W ⟨⟨v, h1, h2⟩, h3, h4, h5, h6⟩ hD
    have c1 := h1.get 0 rfl
    go_wp2
    refine marks_ret (B := w.heap.size) [W0.heap.size] rfl (by intro D hd; simp only [List.mem_singleton] at hd; subst hd; exact ⟨by omega, hD⟩) (by simp) ?_
    intro w' hs
    rw [List.take_length, HIT.out] at h2
    exact ⟨_, results_tmp rfl _ _ _, _, rfl, own_less (ownsRow_stays h2 hs) (by omega), below_stays h5 hs (Nat.le_refl _)⟩
/-! ### A copy -/
section
variable {P : Program} {w : World}
theorem equalIn_map_no (d : Nat) (t k e : TypeId) (m : Nat) (h : P.underlying t = some (.map k e)) : (Op.equalIn (d + 1) t (.map (some m)) (.map none)).run P w = .ok false w := by simp [Op.equalIn, run_underlying h]
theorem equal_map_no (t k e : TypeId) (m : Nat) (h : P.underlying t = some (.map k e)) : (Op.equal t (.map (some m)) (.map none)).run P w = .ok false w := equalIn_map_no 9999 t k e m h
theorem eql_map_no (t k e : TypeId) (m : Nat) (h : P.underlying t = some (.map k e)) : (binOp .eql t (.map (some m)) (.map none)).run P w = .ok (.bool false) w := by
  simp only [binOp]
  simp [equal_map_no t k e m h]
theorem assert_map (t xT k e : TypeId) (v : Value) (h : P.underlying t = some (.map k e)) : (Instr.typeAssert (.iface t v) xT t false).run P w = .ok v w := by
  unfold Instr.typeAssert
  rw [Sem.run_bind, run_underlying h]
  show (if t = t then _ else _ : Sem Value).run P w = _
  rw [if_pos rfl]
  rfl
end
theorem ag_clone (m : Nat) (M : IMap) (w : World) (h : MpAt w m M) : Calls Try.prog 82 #[.map (some m)] w fun e w' => ∃ m', e = .returned (.map (some m')) ∧ MpAt w' m' M ∧ w.heap.size ≤ m' ∧ Below w.heap.size w w' := by
  obtain ⟨w2, hrun, hm2, hb2⟩ := h.clone 99
  have H := Lib.hid (And.intro hm2 hb2)
  have hcall : (callFunc 107 #[.iface 99 (.map (some m))]).run Try.prog w = .ok (.value (.iface 99 (.map (some w.heap.size)))) w2 := by
    rw [run_callFunc_extern Try.func107 (by kernel_rfl) (by kernel_rfl) (by kernel_rfl) (e := Extern.MapsClone.clone) (by kernel_rfl), hrun]
    rfl
  have hq := fun w => eql_map_no (P := Try.prog) (w := w) 99 3 31 m map_desc
  have hta := fun (v : Value) (xT : TypeId) w => assert_map (P := Try.prog) (w := w) 99 xT 3 31 v map_desc
  clear hm2 hb2 hrun
  go_enter Try.func82, Try.ntmps82
  go_wp2
  go_ret
  exact ⟨_, by simp, H.out.1, Nat.le_refl _, H.out.2⟩

set_option maxHeartbeats 4000000 in
theorem ag_copy (U : Nat) (S : Nat → Prop) (L : Row) (w : World) (h : Aug w S U L) :
    Calls Try.prog 52 #[.pointer (some ⟨U, 0, none⟩)] w fun e w' => ∃ U' S', e = .returned (.pointer (some ⟨U', 0, none⟩)) ∧ Aug w' S' U' L ∧ (∀ j, S' j → w.heap.size ≤ j) ∧ Below w.heap.size w w' := by
  obtain ⟨T, m, t, M, hm⟩ := h
  have H := Lib.hid hm
  have c0 := hm.blk.get 0 rfl
  clear hm
  have Q := Lib.hid (rh_Copy T t w.drew (H.out.tree.next (below_of_drew (Below.refl _ _))))
  have KQ : Hid (∀ w', Below (w.heap.size) w w' → (w'.cell? ⟨U, 0, none⟩ = some (.pointer (some ⟨T, 0, none⟩)) ∧ w'.cell? ⟨U, 1, none⟩ = some (.map (some m))) ∧ Below (w.heap.size) w w') := fun w' hb => ⟨⟨(H.out.blk.next hb).get 0 rfl, (H.out.blk.next hb).get 1 rfl⟩, hb⟩
  go_enter Try.func52, Try.ntmps52
  go_upto_region 5 with (fail)
  clear c0
  refine wp_region_noPanic ?_
  refine wp_region_held_drew (S := fun w' => (w'.cell? ⟨U, 0, none⟩ = some (.pointer (some ⟨T, 0, none⟩)) ∧ w'.cell? ⟨U, 1, none⟩ = some (.map (some m))) ∧ Below (w.heap.size) w w') (by kernel_rfl) (KQ.out _ (below_of_drew (Below.refl w.heap.size w))) (fun hH => ?_)
  have hbR := below_of_drew (Below.refl w.heap.size w)
  first | (refine wpAnyH_take (i := 0) (v := undef) rfl ?_ ?_ ?_ (fun _ _ _ h => h) ?_ ?_ ?_; kernel_rfl; kernel_rfl; kernel_rfl; exact Or.inr ⟨by rfl, rfl⟩; exact hH) | (refine wpAnyH_take (i := 0) (v := ?_) rfl ?_ ?_ ?_ (fun _ _ _ h => h) ?_ ?_ ?_; rotate_left; kernel_rfl; kernel_rfl; kernel_rfl; (focus (refine Or.inl ⟨by rfl, ?_⟩; intro w' hSw; (try dsimp only at hSw); go_simp)); exact hH) | (refine wpAnyH_take (i := 0) (v := ?_) rfl ?_ ?_ ?_ (fun _ _ _ h => h) ?_ ?_ ?_; rotate_left; kernel_rfl; kernel_rfl; kernel_rfl; (focus (refine Or.inl ⟨by rfl, ?_⟩; intro w' hSw; (try dsimp only at hSw); go_simp; with_reducible rfl)); exact hH)
  try simp only [Act.put, List.getElem_toArray, List.getElem_cons_succ, List.getElem_cons_zero, List.setIfInBounds_toArray, List.set_cons_zero, List.set_cons_succ]
  first | (refine wpAnyH_take (i := 1) (v := undef) rfl ?_ ?_ ?_ (fun _ _ _ h => h) ?_ ?_ ?_; kernel_rfl; kernel_rfl; kernel_rfl; exact Or.inr ⟨by rfl, rfl⟩; exact hH) | (refine wpAnyH_take (i := 1) (v := ?_) rfl ?_ ?_ ?_ (fun _ _ _ h => h) ?_ ?_ ?_; rotate_left; kernel_rfl; kernel_rfl; kernel_rfl; (focus (refine Or.inl ⟨by rfl, ?_⟩; intro w' hSw; (try dsimp only at hSw); go_simp)); exact hH) | (refine wpAnyH_take (i := 1) (v := ?_) rfl ?_ ?_ ?_ (fun _ _ _ h => h) ?_ ?_ ?_; rotate_left; kernel_rfl; kernel_rfl; kernel_rfl; (focus (refine Or.inl ⟨by rfl, ?_⟩; intro w' hSw; (try dsimp only at hSw); go_simp; with_reducible rfl)); exact hH)
  try simp only [Act.put, List.getElem_toArray, List.getElem_cons_succ, List.getElem_cons_zero, List.setIfInBounds_toArray, List.set_cons_zero, List.set_cons_succ]
  first | (refine wpAnyH_take (i := 2) (v := undef) rfl ?_ ?_ ?_ (fun _ _ _ h => h) ?_ ?_ ?_; kernel_rfl; kernel_rfl; kernel_rfl; exact Or.inr ⟨by rfl, rfl⟩; exact hH) | (refine wpAnyH_take (i := 2) (v := ?_) rfl ?_ ?_ ?_ (fun _ _ _ h => h) ?_ ?_ ?_; rotate_left; kernel_rfl; kernel_rfl; kernel_rfl; (focus (refine Or.inl ⟨by rfl, ?_⟩; intro w' hSw; (try dsimp only at hSw); go_simp)); exact hH) | (refine wpAnyH_take (i := 2) (v := ?_) rfl ?_ ?_ ?_ (fun _ _ _ h => h) ?_ ?_ ?_; rotate_left; kernel_rfl; kernel_rfl; kernel_rfl; (focus (refine Or.inl ⟨by rfl, ?_⟩; intro w' hSw; (try dsimp only at hSw); go_simp; with_reducible rfl)); exact hH)
  try simp only [Act.put, List.getElem_toArray, List.getElem_cons_succ, List.getElem_cons_zero, List.setIfInBounds_toArray, List.set_cons_zero, List.set_cons_succ]
  first | (refine wpAnyH_take (i := 3) (v := undef) rfl ?_ ?_ ?_ (fun _ _ _ h => h) ?_ ?_ ?_; kernel_rfl; kernel_rfl; kernel_rfl; exact Or.inr ⟨by rfl, rfl⟩; exact hH) | (refine wpAnyH_take (i := 3) (v := ?_) rfl ?_ ?_ ?_ (fun _ _ _ h => h) ?_ ?_ ?_; rotate_left; kernel_rfl; kernel_rfl; kernel_rfl; (focus (refine Or.inl ⟨by rfl, ?_⟩; intro w' hSw; (try dsimp only at hSw); go_simp)); exact hH) | (refine wpAnyH_take (i := 3) (v := ?_) rfl ?_ ?_ ?_ (fun _ _ _ h => h) ?_ ?_ ?_; rotate_left; kernel_rfl; kernel_rfl; kernel_rfl; (focus (refine Or.inl ⟨by rfl, ?_⟩; intro w' hSw; (try dsimp only at hSw); go_simp; with_reducible rfl)); exact hH)
  try simp only [Act.put, List.getElem_toArray, List.getElem_cons_succ, List.getElem_cons_zero, List.setIfInBounds_toArray, List.set_cons_zero, List.set_cons_succ]
  first | (refine wpAnyH_take (i := 5) (v := undef) rfl ?_ ?_ ?_ (fun _ _ _ h => h) ?_ ?_ ?_; kernel_rfl; kernel_rfl; kernel_rfl; exact Or.inr ⟨by rfl, rfl⟩; exact hH) | (refine wpAnyH_take (i := 5) (v := ?_) rfl ?_ ?_ ?_ (fun _ _ _ h => h) ?_ ?_ ?_; rotate_left; kernel_rfl; kernel_rfl; kernel_rfl; (focus (refine Or.inl ⟨by rfl, ?_⟩; intro w' hSw; (try dsimp only at hSw); go_simp)); exact hH) | (refine wpAnyH_take (i := 5) (v := ?_) rfl ?_ ?_ ?_ (fun _ _ _ h => h) ?_ ?_ ?_; rotate_left; kernel_rfl; kernel_rfl; kernel_rfl; (focus (refine Or.inl ⟨by rfl, ?_⟩; intro w' hSw; (try dsimp only at hSw); go_simp; with_reducible rfl)); exact hH)
  try simp only [Act.put, List.getElem_toArray, List.getElem_cons_succ, List.getElem_cons_zero, List.setIfInBounds_toArray, List.set_cons_zero, List.set_cons_succ]
  first | (refine wpAnyH_take (i := 6) (v := undef) rfl ?_ ?_ ?_ (fun _ _ _ h => h) ?_ ?_ ?_; kernel_rfl; kernel_rfl; kernel_rfl; exact Or.inr ⟨by rfl, rfl⟩; exact hH) | (refine wpAnyH_take (i := 6) (v := ?_) rfl ?_ ?_ ?_ (fun _ _ _ h => h) ?_ ?_ ?_; rotate_left; kernel_rfl; kernel_rfl; kernel_rfl; (focus (refine Or.inl ⟨by rfl, ?_⟩; intro w' hSw; (try dsimp only at hSw); go_simp)); exact hH) | (refine wpAnyH_take (i := 6) (v := ?_) rfl ?_ ?_ ?_ (fun _ _ _ h => h) ?_ ?_ ?_; rotate_left; kernel_rfl; kernel_rfl; kernel_rfl; (focus (refine Or.inl ⟨by rfl, ?_⟩; intro w' hSw; (try dsimp only at hSw); go_simp; with_reducible rfl)); exact hH)
  try simp only [Act.put, List.getElem_toArray, List.getElem_cons_succ, List.getElem_cons_zero, List.setIfInBounds_toArray, List.set_cons_zero, List.set_cons_succ]
  first | (refine wpAnyH_take (i := 7) (v := undef) rfl ?_ ?_ ?_ (fun _ _ _ h => h) ?_ ?_ ?_; kernel_rfl; kernel_rfl; kernel_rfl; exact Or.inr ⟨by rfl, rfl⟩; exact hH) | (refine wpAnyH_take (i := 7) (v := ?_) rfl ?_ ?_ ?_ (fun _ _ _ h => h) ?_ ?_ ?_; rotate_left; kernel_rfl; kernel_rfl; kernel_rfl; (focus (refine Or.inl ⟨by rfl, ?_⟩; intro w' hSw; (try dsimp only at hSw); go_simp)); exact hH) | (refine wpAnyH_take (i := 7) (v := ?_) rfl ?_ ?_ ?_ (fun _ _ _ h => h) ?_ ?_ ?_; rotate_left; kernel_rfl; kernel_rfl; kernel_rfl; (focus (refine Or.inl ⟨by rfl, ?_⟩; intro w' hSw; (try dsimp only at hSw); go_simp; with_reducible rfl)); exact hH)
  try simp only [Act.put, List.getElem_toArray, List.getElem_cons_succ, List.getElem_cons_zero, List.setIfInBounds_toArray, List.set_cons_zero, List.set_cons_succ]
  first | (refine wpAnyH_take (i := 8) (v := undef) rfl ?_ ?_ ?_ (fun _ _ _ h => h) ?_ ?_ ?_; kernel_rfl; kernel_rfl; kernel_rfl; exact Or.inr ⟨by rfl, rfl⟩; exact hH) | (refine wpAnyH_take (i := 8) (v := ?_) rfl ?_ ?_ ?_ (fun _ _ _ h => h) ?_ ?_ ?_; rotate_left; kernel_rfl; kernel_rfl; kernel_rfl; (focus (refine Or.inl ⟨by rfl, ?_⟩; intro w' hSw; (try dsimp only at hSw); go_simp)); exact hH) | (refine wpAnyH_take (i := 8) (v := ?_) rfl ?_ ?_ ?_ (fun _ _ _ h => h) ?_ ?_ ?_; rotate_left; kernel_rfl; kernel_rfl; kernel_rfl; (focus (refine Or.inl ⟨by rfl, ?_⟩; intro w' hSw; (try dsimp only at hSw); go_simp; with_reducible rfl)); exact hH)
  try simp only [Act.put, List.getElem_toArray, List.getElem_cons_succ, List.getElem_cons_zero, List.setIfInBounds_toArray, List.set_cons_zero, List.set_cons_succ]
  refine wpAnyH_ready (rs := [4]) (by kernel_rfl) (by simp) ?_
  refine (AllReadyH.cons rfl (fun K hK => ?_) AllReadyH.nil)
  go_simp
  with_reducible refine (Q.out).mono ?_
  rintro e w1 ⟨T', t', rfl, g1, g2, g3, g4, g5⟩
  have hb1 : Below w.heap.size w w1 := below_next hH.2 g5
  have HC := Lib.hid (And.intro g1 (And.intro g2 (And.intro g3 (And.intro g4 hb1))))
  have QM := Lib.hid (ag_clone m M w1 (H.out.map.next hb1))
  clear g1 g2 g3 g4 g5
  refine hK.out _ _ (KQ.out _ hb1) (fun hH1 => ?_)
  clear hK K hH
  have hH := hH1
  clear hH1
  try simp only [Act.put, List.getElem_toArray, List.getElem_cons_succ, List.getElem_cons_zero, List.setIfInBounds_toArray, List.set_cons_zero, List.set_cons_succ]
  refine wpAnyH_ready (rs := [9]) (by kernel_rfl) (by simp) ?_
  refine (AllReadyH.cons rfl (fun K hK => ?_) AllReadyH.nil)
  go_simp
  with_reducible refine (QM.out).mono ?_
  rintro e w2 ⟨m', rfl, g1, g2, g3⟩
  have hb2 : Below w.heap.size w w2 := below_next hH.2 g3
  have HM := Lib.hid (And.intro g1 (And.intro g2 (And.intro g3 hb2)))
  clear g1 g2 g3
  refine hK.out _ _ (KQ.out _ hb2) (fun hH2 => ?_)
  clear hK K hH
  have hH := hH2
  clear hH2
  try simp only [Act.put, List.getElem_toArray, List.getElem_cons_succ, List.getElem_cons_zero, List.setIfInBounds_toArray, List.set_cons_zero, List.set_cons_succ]
  first | (refine wpAnyH_take (i := 10) (v := undef) rfl ?_ ?_ ?_ (fun _ _ _ h => h) ?_ ?_ ?_; kernel_rfl; kernel_rfl; kernel_rfl; exact Or.inr ⟨by rfl, rfl⟩; exact hH) | (refine wpAnyH_take (i := 10) (v := ?_) rfl ?_ ?_ ?_ (fun _ _ _ h => h) ?_ ?_ ?_; rotate_left; kernel_rfl; kernel_rfl; kernel_rfl; (focus (refine Or.inl ⟨by rfl, ?_⟩; intro w' hSw; (try dsimp only at hSw); go_simp)); exact hH) | (refine wpAnyH_take (i := 10) (v := ?_) rfl ?_ ?_ ?_ (fun _ _ _ h => h) ?_ ?_ ?_; rotate_left; kernel_rfl; kernel_rfl; kernel_rfl; (focus (refine Or.inl ⟨by rfl, ?_⟩; intro w' hSw; (try dsimp only at hSw); go_simp; with_reducible rfl)); exact hH)
  try simp only [Act.put, List.getElem_toArray, List.getElem_cons_succ, List.getElem_cons_zero, List.setIfInBounds_toArray, List.set_cons_zero, List.set_cons_succ]
  refine wpAnyH_ready (rs := [11]) (by kernel_rfl) (by simp) ?_
  refine (AllReadyH.cons rfl (fun K hK => ?_) AllReadyH.nil)
  go_simp
  have UBb3 : Blk (w2.alloc (.cells #[.pointer (some ⟨T', 0, none⟩), .map (some m')] 101)) (w2.heap.size) 101 #[.pointer (some ⟨T', 0, none⟩), .map (some m')] := Blk.new_at (by simp)
  have QGUB : w.heap.size ≤ w2.heap.size := Nat.le_trans (Below.size (hb2)) (Nat.le_of_eq (by simp))
  have hb3 := Below.alloc (hb2) (Below.size (hb2)) (.cells #[.pointer (some ⟨T', 0, none⟩), .map (some m')] 101)
  refine hK.out _ _ (KQ.out _ hb3) (fun hH3 => ?_)
  clear hK K hH
  have hH := hH3
  clear hH3
  try simp only [Act.put, List.getElem_toArray, List.getElem_cons_succ, List.getElem_cons_zero, List.setIfInBounds_toArray, List.set_cons_zero, List.set_cons_succ]
  first | (refine wpAnyH_take (i := 12) (v := undef) rfl ?_ ?_ ?_ (fun _ _ _ h => h) ?_ ?_ ?_; kernel_rfl; kernel_rfl; kernel_rfl; exact Or.inr ⟨by rfl, rfl⟩; exact hH) | (refine wpAnyH_take (i := 12) (v := ?_) rfl ?_ ?_ ?_ (fun _ _ _ h => h) ?_ ?_ ?_; rotate_left; kernel_rfl; kernel_rfl; kernel_rfl; (focus (refine Or.inl ⟨by rfl, ?_⟩; intro w' hSw; (try dsimp only at hSw); go_simp)); exact hH) | (refine wpAnyH_take (i := 12) (v := ?_) rfl ?_ ?_ ?_ (fun _ _ _ h => h) ?_ ?_ ?_; rotate_left; kernel_rfl; kernel_rfl; kernel_rfl; (focus (refine Or.inl ⟨by rfl, ?_⟩; intro w' hSw; (try dsimp only at hSw); go_simp; with_reducible rfl)); exact hH)
  try simp only [Act.put, List.getElem_toArray, List.getElem_cons_succ, List.getElem_cons_zero, List.setIfInBounds_toArray, List.set_cons_zero, List.set_cons_succ]
  refine wpAnyH_done (by kernel_rfl) ?_ _
  refine NoPanic.normal ?_
  have ub := UBb3
  have hbz := hb3
  obtain ⟨wd, hwd⟩ : ∃ x, x = (w2.alloc (.cells #[.pointer (some ⟨T', 0, none⟩), .map (some m')] 101)) := ⟨_, rfl⟩
  have huw : Below w2.heap.size w2 wd := by rw [hwd]; exact (Below.refl _ _).alloc (Nat.le_refl _) _
  rw [← hwd] at ub hbz ⊢
  have HU := Lib.hid (And.intro ub (And.intro hbz huw))
  clear hH hwd ub hbz huw KQ
  go_wp2
  go_ret
  have hc2 := HM.out.2.2.1
  have hl1 := HC.out.1.blk.lt
  have hz := HC.out.2.2.2.2.size
  have hz2 := hc2.size
  have hz3 := HU.out.2.2.size
  refine ⟨_, fun j => j = w2.heap.size ∨ j = T' ∨ j = m' ∨ j ∈ t'.blocks, by simp, ⟨T', m', t', M, HU.out.1, (HC.out.1.next hc2).next HU.out.2.2, HM.out.1.next HU.out.2.2, (likeH.items HC.out.2.1).trans H.out.items, H.out.agree, H.out.once, Or.inl rfl, Or.inr (Or.inl rfl), Or.inr (Or.inr (Or.inl rfl)), (fun x hx => Or.inr (Or.inr (Or.inr hx))), ?_⟩, ?_, HU.out.2.1⟩
  · rintro j (rfl | rfl | rfl | hj)
    · exact HU.out.1.lt
    · omega
    · have := HM.out.1.lt; omega
    · have := RepH.lt HC.out.1.rep j hj; omega
  · rintro j (rfl | rfl | rfl | hj)
    · omega
    · exact HC.out.2.2.1
    · have := HM.out.2.1; omega
    · exact HC.out.2.2.2.1 j hj

end Go.Proofs.Ytjlnbpomncglcaa
