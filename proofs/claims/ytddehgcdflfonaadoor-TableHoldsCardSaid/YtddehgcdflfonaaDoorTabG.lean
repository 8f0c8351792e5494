/-
  A table's ids; a copy.
-/
import Derived.Test.YtddehgcdflfonaaDoorProg
import Derived.Test.YtddehgcdflfonaaDoorTabF
import Derived.Maps.AppendAt
namespace Go.Proofs.YtddehgcdflfonaaDoor
set_option linter.unusedVariables false
set_option linter.unusedSimpArgs false
set_option maxRecDepth 100000
open Go.RowKit Go.Shelf

attribute [local go_sem] Oper.semAt_some

theorem own_less {w : World} {B B' : Nat} {e : TypeId} {size n : Nat} {v : Value} {xs : List Value} (h : w.ownsRow B e size v n xs) (hb : B' ≤ B) : w.ownsRow B' e size v n xs := by
  obtain ⟨h1, h2⟩ := h
  refine ⟨h1, ?_⟩
  rcases h2 with h2 | ⟨g, c, cur, a1, a2, a3⟩
  · exact Or.inl h2
  · exact Or.inr ⟨g, c, cur, a1, Nat.le_trans hb a2, a3⟩
theorem own_ne {W : World} {base b : Nat} {e : TypeId} {size n : Nat} {v : Value} {xs : List Value} (h : W.ownsRow base e size v n xs) (hb : b < base) : some b ≠ v.ownBlock := by
  rcases h.2 with ⟨rfl, _⟩ | ⟨g, cap, cur, rfl, hg, _⟩
  · intro e; cases e
  · intro e; simp only [Value.ownBlock, Option.some.injEq] at e; omega
theorem own_ge {W : World} {base : Nat} {e : TypeId} {size n : Nat} {v : Value} {xs : List Value} (h : W.ownsRow base e size v n xs) {k : Nat} (hk : v.ownBlock = some k) : base ≤ k := by
  rcases h.2 with ⟨rfl, _⟩ | ⟨g, cap, cur, rfl, hg, _⟩
  · cases hk
  · simp only [Value.ownBlock, Option.some.injEq] at hk; omega
theorem enc_at {L : TRow} {k : Nat} {i v : Int} (h : L[k]? = some (i, v)) : encRow L k = #[.int .i64 i, .int .u64 v] := by
  unfold encRow
  rw [h]
  rfl
theorem take_row {L : TRow} {k : Nat} {i v : Int} (h : L[k]? = some (i, v)) : (L.take (k + 1)).map (fun p => Value.int .i64 p.1) = (L.take k).map (fun p => Value.int .i64 p.1) ++ [.int .i64 i] := by
  rw [List.take_add_one, h]
  simp
set_option maxHeartbeats 2000000 in
theorem tb_ids (T N : Nat) (S : Nat → Prop) (L : TRow) (w : World) (h : Tb w T S N L) :
    Calls Tryd.prog 17 #[.pointer (some ⟨T, 0, none⟩)] w fun e w' => ∃ v, e = .returned v ∧ w'.ownsRow w.heap.size 3 1 v L.length (L.map fun p => .int .i64 p.1) ∧ Below w.heap.size w w' := by
  have HT := Lib.hid h
  clear h
  refine calls_of_wp_marks Tryd.func17 rfl ?_
  simp only [Tryd.ntmps17, List.size_toArray, List.length_cons, List.length_nil, Nat.reduceAdd, Nat.reduceSub, Array.replicate_succ, Array.replicate_zero, List.push_toArray, List.append_toArray, List.nil_append, List.cons_append]
  go_wp2_with fail
  with_reducible refine (tab_each _ rfl _).mono ?_
  rintro e w1 ⟨rfl, rfl⟩
  go_wp2_with fail
  have bO := (Blk.new w 37 #[.slice none 0 0]).alloc (.cells #[.pointer (some ⟨T, 0, none⟩)] 24)
  have bT := Blk.new (w.alloc (.cells #[.slice none 0 0] 37)) 24 #[.pointer (some ⟨T, 0, none⟩)]
  simp only [World.size_alloc] at bT
  have hB0 : Below w.heap.size w ((w.alloc (.cells #[.slice none 0 0] 37)).alloc (.cells #[.pointer (some ⟨T, 0, none⟩)] 24)) := by go_grown
  have hsz : ((w.alloc (.cells #[.slice none 0 0] 37)).alloc (.cells #[.pointer (some ⟨T, 0, none⟩)] 24)).heap.size = w.heap.size + 2 := by simp
  obtain ⟨W0, hW0⟩ : ∃ W0, (w.alloc (.cells #[.slice none 0 0] 37)).alloc (.cells #[.pointer (some ⟨T, 0, none⟩)] 24) = W0 := ⟨_, rfl⟩
  rw [hW0] at bO bT hB0 hsz ⊢
  clear hW0
  have hlS := Lib.hid HT.out.lt
  have hG := Lib.hid (show 0 < w.heap.size from HT.out.2.2.2)
  have hfew := Lib.hid HT.out.ok.few
  refine wp_range (gf := 30) (lb := #[.pointer (some ⟨w.heap.size + 1, 0, none⟩)]) rfl (enters_of Tryd.func30 (by kernel_rfl) rfl) (each_yields T N (w.heap.size + 1) S L) (fun _ _ => rfl)
    (fun k W => (∃ v, Blk W w.heap.size 37 #[v] ∧ W.ownsRow (W0.heap.size + 2) 3 1 v k ((L.take k).map fun p => .int .i64 p.1)) ∧ Tb W T S N L ∧ Blk W (w.heap.size + 1) 24 #[.pointer (some ⟨T, 0, none⟩)] ∧ Below w.heap.size w W ∧ w.heap.size + 2 ≤ W.heap.size)
    (fun _ _ _ => False) ?hI (fun _ _ _ _ h _ => h) (fun k A h => ⟨h.2.1, h.2.2.1⟩) ?h0 ?hround ?hdone (fun _ _ _ _ h _ => h.elim)
  case hI =>
    rintro k A C ⟨⟨v, h1, h2⟩, h3, h4, h5, h6⟩ hs
    exact ⟨⟨v, h1.stays hs, ownsRow_stays h2 hs⟩, h3.stays hs, h4.stays hs, below_stays h5 hs (by omega), Nat.le_trans h6 hs.size⟩
  case h0 => exact ⟨⟨_, bO, World.ownsRow_nil _ _ _ _⟩, HT.out.next hB0, bT, hB0, by omega⟩
  case hround =>
    rintro k W hk ⟨⟨v, h1, h2⟩, h3, h4, h5, h6⟩ hlt
    obtain ⟨i, x, q1, q2, q3⟩ := row_at HT.out.ok.rises hk
    rw [enc_at q1]
    gi_wp2
    refine ⟨Holds.refl hlt, fun W2 hs => ?_⟩
    have HI := Lib.hid (And.intro (Blk.stays h1 hs) (And.intro (ownsRow_stays h2 hs) (And.intro (h3.stays hs) (And.intro (Blk.stays h4 hs) (And.intro (below_stays h5 hs (by omega)) (Nat.le_trans h6 hs.size))))))
    have HK := Lib.hid hk
    have HS2 := Lib.hid (Nat.lt_of_lt_of_le hlt hs.size)
    have HQ := Lib.hid q1
    clear h1 h2 h3 h4 h5 h6 hs q1 q2 q3 hlt hk bO bT hB0
    have c1 := HI.out.1.get 0 rfl
    have f1 := HI.out.1.frozen 0
    obtain ⟨i0, hi0, hz0, hs0, hb0⟩ := info_parts (show (Tryd.prog.info? 3).map (fun i => (i.zero, i.size, i.bytes)) = some (some (.int .i64 0), 1, 8) by kernel_rfl)
    have HIF := Lib.hid (And.intro hi0 (And.intro hz0 (And.intro hs0 hb0)))
    clear hi0 hz0 hs0 hb0
    gi_wp2_with (gi_at_builtin; refine wpListIn_append_own _ rfl (.tmp 9) (.tmp 11) 37 rfl (W0.heap.size + 2) 3 i0 (.int .i64 0) 1 8 Tryd.underlying37 HIF.out.1 HIF.out.2.1 HIF.out.2.2.1 HIF.out.2.2.2 rfl (by decide) _ _ _ rfl (HI.out.2.1.alloc _) ⟨W2.heap.size, 0, none⟩ 1 1 [.int .i64 i] rfl rfl (cell_one_new _ _ _) (by simp [Value.oneCell']) (by have := hfew.out; have := HK.out; unfold maxLen; omega) (by have := hfew.out; have := HK.out; omega) (by have := HS2.out; simp; omega) ?_; intro v' w1 hown' hgrow _; obtain ⟨g', cap', rfl⟩ := ownsRow_succ hown'; have HO := Lib.hid (And.intro hown' hgrow); clear hown' hgrow; have b1 := (HI.out.1.alloc _).grown HO.out.2 (own_ne HI.out.2.1 (by omega)); have c2 := b1.get 0 rfl; have f2 := b1.frozen 0)
    have F : Fr (fun j => w.heap.size ≤ j) W2 (w1.setCell ⟨w.heap.size, 0, none⟩ (Value.slice (some ⟨g', 0, none⟩) (k + 1) cap')) := (((Fr.refl _ W2).alloc _).grown HO.out.2 (fun j e _ => by have := own_ge HI.out.2.1 e; omega)).setCell (p := ⟨w.heap.size, 0, none⟩) (fun _ => show w.heap.size ≤ w.heap.size from Nat.le_refl _) _
    refine ⟨(((Holds.refl HS2.out).alloc _).grown HO.out.2 (own_ne HI.out.2.1 (by omega)) (own_ne HI.out.2.1 (by omega))).set (p := ⟨w.heap.size, 0, none⟩) (show w.heap.size ≠ W0.heap.size by omega) (show w.heap.size ≠ W0.heap.size + 1 by omega) _, ⟨_, b1.put 0 _, ?_⟩, HI.out.2.2.1.fr F (fun j hj hn => by have := hlS.out j hj; omega) (fun j hj => by have := hG.out; omega), (((HI.out.2.2.2.1.alloc _).grown HO.out.2 (own_ne HI.out.2.1 (by omega))).far (p := ⟨w.heap.size, 0, none⟩) (show w.heap.size + 1 ≠ w.heap.size by omega) _), HI.out.2.2.2.2.1.trans (F.below (by have := HI.out.2.2.2.2.2; omega) (fun j hj hn => by omega)), Nat.le_trans HI.out.2.2.2.2.2 F.size⟩
    rw [take_row HQ.out]
    exact ownsRow_setCell_below HO.out.1 (show w.heap.size < W0.heap.size + 2 by omega) _
  case hdone =>
    rintro W ⟨⟨v, h1, h2⟩, h3, h4, h5, h6⟩ hD
    have c1 := h1.get 0 rfl
    go_wp2
    refine marks_ret (B := w.heap.size) [W0.heap.size] rfl (by intro D hd; simp only [List.mem_singleton] at hd; subst hd; exact ⟨by omega, hD⟩) (by simp) ?_
    intro w' hs
    rw [List.take_length] at h2
    exact ⟨_, results_tmp rfl _ _ _, _, rfl, own_less (ownsRow_stays h2 hs) (by omega), below_stays h5 hs (Nat.le_refl _)⟩

/-! ### A copy -/
def mapRow (f : Int → Int) (L : TRow) : TRow := L.map fun p => (p.1, f p.2)
theorem mapRow_id (L : TRow) : mapRow (fun v => v) L = L := by simp [mapRow]
theorem tins_last {i v : Int} : ∀ {M : TRow}, (∀ p ∈ M, p.1 < i) → tins i v M = M ++ [(i, v)]
  | [], _ => rfl
  | p :: M, h => by
    have h1 := h p (List.mem_cons_self ..)
    simp only [tins]
    rw [if_neg (by omega), tins_last fun q hq => h q (List.mem_cons_of_mem _ hq)]
    rfl
theorem tput_snoc {L : TRow} (hL : TOk L) (f : Int → Int) {k : Nat} {i v : Int} (h : L[k]? = some (i, v)) : tput i (f v) (mapRow f (L.take k)) = mapRow f (L.take (k + 1)) := by
  have hk : k < L.length := by
    apply Nat.lt_of_not_le
    intro hle
    rw [List.getElem?_eq_none hle] at h
    cases h
  have hik : (L[k]).1 = i := by rw [List.getElem?_eq_getElem hk] at h; exact congrArg Prod.fst (Option.some.inj h)
  have hlow : ∀ p ∈ mapRow f (L.take k), p.1 < i := by
    intro p hp
    obtain ⟨q, hq, rfl⟩ := List.mem_map.1 hp
    obtain ⟨j, hj, rfl⟩ := List.getElem_of_mem hq
    rw [List.length_take] at hj
    rw [List.getElem_take]
    have := rises_at hL.rises (show j < L.length by omega) hk (by omega)
    rw [hik] at this
    exact this
  have hm := hL.ids _ (List.getElem_mem hk)
  rw [hik] at hm
  unfold tput
  rw [if_pos ⟨hm.1, hm.2, tget_none.2 fun p hp => by have := hlow p hp; omega⟩, tins_last hlow, List.take_add_one, h]
  simp [mapRow]
def moreV (v : Int) : Int := (v + 1) % 18446744073709551616
theorem moreV_word (v : Int) : Word (moreV v) := by unfold moreV Word; omega
theorem tab_more (v : Int) (w : World) : Calls Tryd.prog 21 #[.int .u64 v] w fun e w' => e = .returned (.int .u64 (moreV v)) ∧ w = w' := by
  have e1 : IntKind.u64.wrap (v + 1) = moreV v := by rw [IntKind.wrap_u64]; rfl
  obtain ⟨x, hx⟩ : ∃ x, moreV v = x := ⟨_, rfl⟩
  rw [hx] at e1 ⊢
  clear hx
  go_enter Tryd.func21, Tryd.ntmps21
  go_wp2
  go_ret
  exact ⟨rfl, rfl⟩

/-! ### Both copies -/
theorem fn_nil (w : World) : (binOp .neq 51 .nilFunc .nilFunc).run Tryd.prog w = .ok (.bool false) w := by kernel_rfl
theorem fn_not (w : World) : (binOp .neq 51 (.func (.func 21) #[] #[]) .nilFunc).run Tryd.prog w = .ok (.bool true) w := by kernel_rfl
set_option maxHeartbeats 4000000 in
theorem tb_copy_nil (T N : Nat) (S : Nat → Prop) (L : TRow) (w : World) (h : Tb w T S N L) :
    Calls Tryd.prog 20 #[.pointer (some ⟨T, 0, none⟩), .nilFunc] w fun e w' => ∃ T' S', e = .returned (.pointer (some ⟨T', 0, none⟩)) ∧ Tb w' T' S' L.length (mapRow (fun v => v) L) ∧ Below w.heap.size w w' ∧ ∀ k, S' k → w.heap.size ≤ k := by
  have HT := Lib.hid h
  have hh : ∃ m, w.cell? ⟨T, 0, none⟩ = some (.map (some m)) := by obtain ⟨⟨m, n, pg, h1, -⟩, -⟩ := h; exact ⟨m, h1.head.get 0 rfl⟩
  clear h
  obtain ⟨m, hm⟩ := hh
  have HM := Lib.hid hm
  have hTlt := World.block_lt_of_cell? _ _ hm
  clear hm
  refine calls_of_wp_marks Tryd.func20 rfl ?_
  simp only [Tryd.ntmps20, List.size_toArray, List.length_cons, List.length_nil, Nat.reduceAdd, Nat.reduceSub, Array.replicate_succ, Array.replicate_zero, List.push_toArray, List.append_toArray, List.nil_append, List.cons_append]
  go_wp2_with fail
  with_reducible refine (tab_none_made T m _ ?_).mono ?_
  · exact (((Below.refl w.heap.size w).alloc (Nat.le_refl _) _).cell (p := ⟨T, 0, none⟩) hTlt).trans HM.out
  rintro e w1 ⟨rfl, rfl⟩
  go_wp2_with fail
  have B1 : Below w.heap.size w (w.alloc (.cells #[.nilFunc] 51)) := (Below.refl w.heap.size w).alloc (Nat.le_refl _) _
  have bF := Blk.new w 51 #[.nilFunc]
  have HT1 := Lib.hid (HT.out.next B1)
  obtain ⟨wa, hwa⟩ : ∃ x, w.alloc (.cells #[.nilFunc] 51) = x := ⟨_, rfl⟩
  have hza : wa.heap.size = w.heap.size + 1 := by rw [← hwa]; simp
  rw [hwa] at B1 bF HT1 ⊢
  clear hwa
  with_reducible refine (tb_new wa (Tb.br HT1.out)).mono ?_
  rintro e w2 ⟨rfl, hT2, hb2⟩
  have HT2 := Lib.hid (HT1.out.next hb2)
  have HN := Lib.hid hT2
  have bF2 := bF.next hb2
  have B2 : Below w.heap.size w w2 := below_next B1 (by rw [hza] at hb2 ⊢; exact hb2)
  have hz2 : w.heap.size + 1 ≤ w2.heap.size := by have := hb2.size; omega
  clear hT2 hb2 bF B1 HT1
  have HNL := Lib.hid HN.out.lt
  rw [hza] at HN HNL ⊢
  go_wp2_with fail
  with_reducible refine (tab_each _ rfl _).mono ?_
  rintro e w3 ⟨rfl, rfl⟩
  go_wp2_with fail
  have bO := (Blk.new w2 24 #[.pointer (some ⟨w.heap.size + 1 + 1, 0, none⟩)]).alloc (.cells #[.pointer (some ⟨T, 0, none⟩)] 24)
  have bT := Blk.new (w2.alloc (.cells #[.pointer (some ⟨w.heap.size + 1 + 1, 0, none⟩)] 24)) 24 #[.pointer (some ⟨T, 0, none⟩)]
  simp only [World.size_alloc] at bT
  have hB2 : Below w2.heap.size w2 ((w2.alloc (.cells #[.pointer (some ⟨w.heap.size + 1 + 1, 0, none⟩)] 24)).alloc (.cells #[.pointer (some ⟨T, 0, none⟩)] 24)) := by go_grown
  have hsz : ((w2.alloc (.cells #[.pointer (some ⟨w.heap.size + 1 + 1, 0, none⟩)] 24)).alloc (.cells #[.pointer (some ⟨T, 0, none⟩)] 24)).heap.size = w2.heap.size + 2 := by simp
  obtain ⟨W0, hW0⟩ : ∃ x, (w2.alloc (.cells #[.pointer (some ⟨w.heap.size + 1 + 1, 0, none⟩)] 24)).alloc (.cells #[.pointer (some ⟨T, 0, none⟩)] 24) = x := ⟨_, rfl⟩
  rw [hW0] at bO bT hB2 hsz ⊢
  have hsz1 : w2.heap.size + 2 ≤ W0.heap.size := by omega
  clear hW0 hsz
  have hlS := Lib.hid HT.out.lt
  have hfew := Lib.hid HT.out.ok.few
  have hOK := Lib.hid HT.out.ok
  have n1 := HNL.out (w.heap.size + 1) (Or.inl rfl)
  have n2 := HNL.out (w.heap.size + 1 + 1) (Or.inr rfl)
  refine wp_range (gf := 30) (lb := #[.pointer (some ⟨w2.heap.size + 1, 0, none⟩)]) rfl (enters_of Tryd.func30 (by kernel_rfl) rfl) (each_yields T N (w2.heap.size + 1) S L) (fun _ _ => rfl)
    (fun k W => (∃ S', Tb W (w.heap.size + 1 + 1) S' k (mapRow (fun v => v) (L.take k)) ∧ ∀ j, S' j → w.heap.size < j ∧ j ≠ w2.heap.size ∧ j ≠ w2.heap.size + 1 ∧ j ≠ W0.heap.size ∧ j ≠ W0.heap.size + 1) ∧ Tb W T S N L ∧ Blk W (w2.heap.size + 1) 24 #[.pointer (some ⟨T, 0, none⟩)] ∧ Blk W w2.heap.size 24 #[.pointer (some ⟨w.heap.size + 1 + 1, 0, none⟩)] ∧ Blk W w.heap.size 51 #[.nilFunc] ∧ Below w.heap.size w W ∧ W0.heap.size ≤ W.heap.size)
    (fun _ _ _ => False) ?hI (fun _ _ _ _ h _ => h) (fun k A h => ⟨h.2.1, h.2.2.1⟩) ?h0 ?hround ?hdone (fun _ _ _ _ h _ => h.elim)
  case hI =>
    rintro k A C ⟨⟨S', h1, h2⟩, h3, h4, h5, h6, h7, h8⟩ hs
    exact ⟨⟨S', h1.stays hs, h2⟩, h3.stays hs, h4.stays hs, h5.stays hs, h6.stays hs, below_stays h7 hs (by omega), Nat.le_trans h8 hs.size⟩
  case h0 => exact ⟨⟨_, HN.out.next hB2, fun j hj => by omega⟩, HT2.out.next hB2, bT, bO, bF2.next hB2, below_next B2 (hB2.mono (by omega)), Nat.le_refl _⟩
  case hround =>
    rintro k W hk ⟨⟨S', h1, h2⟩, h3, h4, h5, h6, h7, h8⟩ hlt
    obtain ⟨i, x, q1, q2, q3⟩ := row_at hOK.out.rises hk
    have hx := hOK.out.words _ q2
    rw [enc_at q1]
    gi_wp2
    refine ⟨Holds.refl hlt, fun W2 hs => ?_⟩
    have HS2 := Lib.hid (Nat.lt_of_lt_of_le hlt hs.size)
    have HI := Lib.hid (And.intro (h1.stays hs) (And.intro h2 (And.intro (h3.stays hs) (And.intro (Blk.stays h4 hs) (And.intro (Blk.stays h5 hs) (And.intro (Blk.stays h6 hs) (And.intro (below_stays h7 hs (by omega)) (Nat.le_trans h8 hs.size))))))))
    have HX := Lib.hid hx
    have HK := Lib.hid hk
    have HQ := Lib.hid q1
    clear h1 h2 h3 h4 h5 h6 h7 h8 hs q1 q2 q3 hlt hk bO bT hB2 hx B2 bF2 n1 n2
    have cO := HI.out.2.2.2.2.1.get 0 rfl
    have cF := HI.out.2.2.2.2.2.1.get 0 rfl
    have hd : 1 ≤ 5 := by omega
    have nq := fn_nil W2
    have PUT := Lib.hid (tb_put (w.heap.size + 1 + 1) k S' _ i x W2 HI.out.1 HX.out (by have := HK.out; have := hfew.out; omega))
    gi_wp2_with (refine ⟨trivial, ?_⟩; gi_at_call 13; refine (CallsIn.inRound (W0.heap.size + 1) (callsIn_wide.2 PUT.out)).mono ?_; rintro e W3 ⟨rfl, S3, hp⟩; have HP := Lib.hid hp; clear hp)
    obtain ⟨T3, F3, N3⟩ := HP.out
    refine ⟨(Holds.refl HS2.out).fr F3 (fun h => (HI.out.2.1 _ h).2.2.2.1 rfl) (fun h => (HI.out.2.1 _ h).2.2.2.2 rfl), ⟨S3, by rw [← tput_snoc hOK.out (fun v => v) HQ.out]; exact T3, fun j hj => ?_⟩, ?_, ?_, ?_, ?_, ?_, Nat.le_trans HI.out.2.2.2.2.2.2.2 F3.size⟩
    · rcases N3 j hj with h | h
      · exact HI.out.2.1 j h
      · have := HS2.out; omega
    · exact HI.out.2.2.1.fr F3 (fun j hj hn => by have := hlS.out j hj; have := (HI.out.2.1 j hn).1; omega) (fun j hj => HI.out.1.big j hj)
    · exact HI.out.2.2.2.1.fr F3 (fun hn => (HI.out.2.1 _ hn).2.2.1 rfl)
    · exact HI.out.2.2.2.2.1.fr F3 (fun hn => (HI.out.2.1 _ hn).2.1 rfl)
    · exact HI.out.2.2.2.2.2.1.fr F3 (fun hn => by have := (HI.out.2.1 _ hn).1; omega)
    · exact HI.out.2.2.2.2.2.2.1.trans (F3.below (by have := HI.out.2.2.2.2.2.2.2; omega) (fun j hj hn => by have := (HI.out.2.1 j hn).1; omega))
  case hdone =>
    rintro W ⟨⟨S', h1, h2⟩, h3, h4, h5, h6, h7, h8⟩ hD
    have c1 := h5.get 0 rfl
    have HI := Lib.hid (And.intro h1 (And.intro h2 h7))
    clear h1 h2 h3 h4 h6 h7 B2 bF2 bO bT hB2
    go_wp2
    refine marks_ret (B := w.heap.size) [W0.heap.size] rfl (by intro D hd; simp only [List.mem_singleton] at hd; subst hd; exact ⟨by omega, hD⟩) (by simp) ?_
    intro w' hs
    have h1 := HI.out.1
    rw [List.take_length] at h1
    exact ⟨_, results_tmp rfl _ _ _, _, S', rfl, h1.stays hs, below_stays HI.out.2.2 hs (Nat.le_refl _), fun j hj => by have := (HI.out.2.1 j hj).1; omega⟩

set_option maxHeartbeats 4000000 in
theorem tb_copy_more (T N : Nat) (S : Nat → Prop) (L : TRow) (w : World) (h : Tb w T S N L) :
    Calls Tryd.prog 20 #[.pointer (some ⟨T, 0, none⟩), .func (.func 21) #[] #[]] w fun e w' => ∃ T' S', e = .returned (.pointer (some ⟨T', 0, none⟩)) ∧ Tb w' T' S' L.length (mapRow moreV L) ∧ Below w.heap.size w w' ∧ ∀ k, S' k → w.heap.size ≤ k := by
  have HT := Lib.hid h
  have hh : ∃ m, w.cell? ⟨T, 0, none⟩ = some (.map (some m)) := by obtain ⟨⟨m, n, pg, h1, -⟩, -⟩ := h; exact ⟨m, h1.head.get 0 rfl⟩
  clear h
  obtain ⟨m, hm⟩ := hh
  have HM := Lib.hid hm
  have hTlt := World.block_lt_of_cell? _ _ hm
  clear hm
  refine calls_of_wp_marks Tryd.func20 rfl ?_
  simp only [Tryd.ntmps20, List.size_toArray, List.length_cons, List.length_nil, Nat.reduceAdd, Nat.reduceSub, Array.replicate_succ, Array.replicate_zero, List.push_toArray, List.append_toArray, List.nil_append, List.cons_append]
  go_wp2_with fail
  with_reducible refine (tab_none_made T m _ ?_).mono ?_
  · exact (((Below.refl w.heap.size w).alloc (Nat.le_refl _) _).cell (p := ⟨T, 0, none⟩) hTlt).trans HM.out
  rintro e w1 ⟨rfl, rfl⟩
  go_wp2_with fail
  have B1 : Below w.heap.size w (w.alloc (.cells #[.func (.func 21) #[] #[]] 51)) := (Below.refl w.heap.size w).alloc (Nat.le_refl _) _
  have bF := Blk.new w 51 #[.func (.func 21) #[] #[]]
  have HT1 := Lib.hid (HT.out.next B1)
  obtain ⟨wa, hwa⟩ : ∃ x, w.alloc (.cells #[.func (.func 21) #[] #[]] 51) = x := ⟨_, rfl⟩
  have hza : wa.heap.size = w.heap.size + 1 := by rw [← hwa]; simp
  rw [hwa] at B1 bF HT1 ⊢
  clear hwa
  with_reducible refine (tb_new wa (Tb.br HT1.out)).mono ?_
  rintro e w2 ⟨rfl, hT2, hb2⟩
  have HT2 := Lib.hid (HT1.out.next hb2)
  have HN := Lib.hid hT2
  have bF2 := bF.next hb2
  have B2 : Below w.heap.size w w2 := below_next B1 (by rw [hza] at hb2 ⊢; exact hb2)
  have hz2 : w.heap.size + 1 ≤ w2.heap.size := by have := hb2.size; omega
  clear hT2 hb2 bF B1 HT1
  have HNL := Lib.hid HN.out.lt
  rw [hza] at HN HNL ⊢
  go_wp2_with fail
  with_reducible refine (tab_each _ rfl _).mono ?_
  rintro e w3 ⟨rfl, rfl⟩
  go_wp2_with fail
  have bO := (Blk.new w2 24 #[.pointer (some ⟨w.heap.size + 1 + 1, 0, none⟩)]).alloc (.cells #[.pointer (some ⟨T, 0, none⟩)] 24)
  have bT := Blk.new (w2.alloc (.cells #[.pointer (some ⟨w.heap.size + 1 + 1, 0, none⟩)] 24)) 24 #[.pointer (some ⟨T, 0, none⟩)]
  simp only [World.size_alloc] at bT
  have hB2 : Below w2.heap.size w2 ((w2.alloc (.cells #[.pointer (some ⟨w.heap.size + 1 + 1, 0, none⟩)] 24)).alloc (.cells #[.pointer (some ⟨T, 0, none⟩)] 24)) := by go_grown
  have hsz : ((w2.alloc (.cells #[.pointer (some ⟨w.heap.size + 1 + 1, 0, none⟩)] 24)).alloc (.cells #[.pointer (some ⟨T, 0, none⟩)] 24)).heap.size = w2.heap.size + 2 := by simp
  obtain ⟨W0, hW0⟩ : ∃ x, (w2.alloc (.cells #[.pointer (some ⟨w.heap.size + 1 + 1, 0, none⟩)] 24)).alloc (.cells #[.pointer (some ⟨T, 0, none⟩)] 24) = x := ⟨_, rfl⟩
  rw [hW0] at bO bT hB2 hsz ⊢
  have hsz1 : w2.heap.size + 2 ≤ W0.heap.size := by omega
  clear hW0 hsz
  have hlS := Lib.hid HT.out.lt
  have hfew := Lib.hid HT.out.ok.few
  have hOK := Lib.hid HT.out.ok
  have n1 := HNL.out (w.heap.size + 1) (Or.inl rfl)
  have n2 := HNL.out (w.heap.size + 1 + 1) (Or.inr rfl)
  refine wp_range (gf := 30) (lb := #[.pointer (some ⟨w2.heap.size + 1, 0, none⟩)]) rfl (enters_of Tryd.func30 (by kernel_rfl) rfl) (each_yields T N (w2.heap.size + 1) S L) (fun _ _ => rfl)
    (fun k W => (∃ S', Tb W (w.heap.size + 1 + 1) S' k (mapRow moreV (L.take k)) ∧ ∀ j, S' j → w.heap.size < j ∧ j ≠ w2.heap.size ∧ j ≠ w2.heap.size + 1 ∧ j ≠ W0.heap.size ∧ j ≠ W0.heap.size + 1) ∧ Tb W T S N L ∧ Blk W (w2.heap.size + 1) 24 #[.pointer (some ⟨T, 0, none⟩)] ∧ Blk W w2.heap.size 24 #[.pointer (some ⟨w.heap.size + 1 + 1, 0, none⟩)] ∧ Blk W w.heap.size 51 #[.func (.func 21) #[] #[]] ∧ Below w.heap.size w W ∧ W0.heap.size ≤ W.heap.size)
    (fun _ _ _ => False) ?hI (fun _ _ _ _ h _ => h) (fun k A h => ⟨h.2.1, h.2.2.1⟩) ?h0 ?hround ?hdone (fun _ _ _ _ h _ => h.elim)
  case hI =>
    rintro k A C ⟨⟨S', h1, h2⟩, h3, h4, h5, h6, h7, h8⟩ hs
    exact ⟨⟨S', h1.stays hs, h2⟩, h3.stays hs, h4.stays hs, h5.stays hs, h6.stays hs, below_stays h7 hs (by omega), Nat.le_trans h8 hs.size⟩
  case h0 => exact ⟨⟨_, HN.out.next hB2, fun j hj => by omega⟩, HT2.out.next hB2, bT, bO, bF2.next hB2, below_next B2 (hB2.mono (by omega)), Nat.le_refl _⟩
  case hround =>
    rintro k W hk ⟨⟨S', h1, h2⟩, h3, h4, h5, h6, h7, h8⟩ hlt
    obtain ⟨i, x, q1, q2, q3⟩ := row_at hOK.out.rises hk
    have hx := hOK.out.words _ q2
    rw [enc_at q1]
    gi_wp2
    refine ⟨Holds.refl hlt, fun W2 hs => ?_⟩
    have HS2 := Lib.hid (Nat.lt_of_lt_of_le hlt hs.size)
    have HI := Lib.hid (And.intro (h1.stays hs) (And.intro h2 (And.intro (h3.stays hs) (And.intro (Blk.stays h4 hs) (And.intro (Blk.stays h5 hs) (And.intro (Blk.stays h6 hs) (And.intro (below_stays h7 hs (by omega)) (Nat.le_trans h8 hs.size))))))))
    have HX := Lib.hid hx
    have HK := Lib.hid hk
    have HQ := Lib.hid q1
    clear h1 h2 h3 h4 h5 h6 h7 h8 hs q1 q2 q3 hlt hk bO bT hB2 hx B2 bF2 n1 n2
    have cO := HI.out.2.2.2.2.1.get 0 rfl
    have cF := HI.out.2.2.2.2.2.1.get 0 rfl
    have hd : 1 ≤ 5 := by omega
    have nq := fn_not W2
    have PUT := Lib.hid (tb_put (w.heap.size + 1 + 1) k S' _ i (moreV x) W2 HI.out.1 (moreV_word x) (by have := HK.out; have := hfew.out; omega))
    gi_wp2_with (first | (refine ⟨trivial, ?_⟩; gi_at_call 21; refine (CallsIn.inRound (W0.heap.size + 1) (callsIn_wide.2 (tab_more x _))).mono ?_; rintro e W3 ⟨rfl, rfl⟩) | (refine ⟨trivial, ?_⟩; gi_at_call 13; refine (CallsIn.inRound (W0.heap.size + 1) (callsIn_wide.2 PUT.out)).mono ?_; rintro e W3 ⟨rfl, S3, hp⟩; have HP := Lib.hid hp; clear hp))
    obtain ⟨T3, F3, N3⟩ := HP.out
    refine ⟨(Holds.refl HS2.out).fr F3 (fun h => (HI.out.2.1 _ h).2.2.2.1 rfl) (fun h => (HI.out.2.1 _ h).2.2.2.2 rfl), ⟨S3, by rw [← tput_snoc hOK.out moreV HQ.out]; exact T3, fun j hj => ?_⟩, ?_, ?_, ?_, ?_, ?_, Nat.le_trans HI.out.2.2.2.2.2.2.2 F3.size⟩
    · rcases N3 j hj with h | h
      · exact HI.out.2.1 j h
      · have := HS2.out; omega
    · exact HI.out.2.2.1.fr F3 (fun j hj hn => by have := hlS.out j hj; have := (HI.out.2.1 j hn).1; omega) (fun j hj => HI.out.1.big j hj)
    · exact HI.out.2.2.2.1.fr F3 (fun hn => (HI.out.2.1 _ hn).2.2.1 rfl)
    · exact HI.out.2.2.2.2.1.fr F3 (fun hn => (HI.out.2.1 _ hn).2.1 rfl)
    · exact HI.out.2.2.2.2.2.1.fr F3 (fun hn => by have := (HI.out.2.1 _ hn).1; omega)
    · exact HI.out.2.2.2.2.2.2.1.trans (F3.below (by have := HI.out.2.2.2.2.2.2.2; omega) (fun j hj hn => by have := (HI.out.2.1 j hn).1; omega))
  case hdone =>
    rintro W ⟨⟨S', h1, h2⟩, h3, h4, h5, h6, h7, h8⟩ hD
    have c1 := h5.get 0 rfl
    have HI := Lib.hid (And.intro h1 (And.intro h2 h7))
    clear h1 h2 h3 h4 h6 h7 B2 bF2 bO bT hB2
    go_wp2
    refine marks_ret (B := w.heap.size) [W0.heap.size] rfl (by intro D hd; simp only [List.mem_singleton] at hd; subst hd; exact ⟨by omega, hD⟩) (by simp) ?_
    intro w' hs
    have h1 := HI.out.1
    rw [List.take_length] at h1
    exact ⟨_, results_tmp rfl _ _ _, _, S', rfl, h1.stays hs, below_stays HI.out.2.2 hs (Nat.le_refl _), fun j hj => by have := (HI.out.2.1 j hj).1; omega⟩

end Go.Proofs.YtddehgcdflfonaaDoor
