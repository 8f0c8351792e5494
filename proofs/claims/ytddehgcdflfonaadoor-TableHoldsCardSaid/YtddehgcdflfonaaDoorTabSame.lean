/-
  A table as 'same' and 'Ids' see it; whether it holds what a row does.
-/
import Derived.Test.YtddehgcdflfonaaDoorProg
import Derived.Test.YtddehgcdflfonaaDoorTabG
import Derived.Test.YtddehgcdflfonaaDoorTabH
import Derived.Test.YtddehgcdflfonaaDoorTabRef
import Derived.Test.YtddehgcdflfonaaDoorQuietRound
namespace Go.Proofs.YtddehgcdflfonaaDoor
set_option linter.unusedVariables false
set_option linter.unusedSimpArgs false
set_option maxRecDepth 100000
open Go.RowKit Go.Shelf

attribute [local go_sem] Oper.semAt_some

/-- What is asked of a table: it holds L, as long as what lies below F stays. -/
structure IsTab (p : Value) (F : Nat) (Inv : World → Prop) (L : TRow) : Prop where
  one : p.oneCell' = true
  ok : TOk L
  get : ∀ (id : Int) (w : World), Inv w → Calls Tryd.prog 11 #[p, .int .i64 id] w fun e w' => e = .returned (.tuple #[.int .u64 ((tget id L).getD 0), .bool (tget id L).isSome]) ∧ Below w.heap.size w w'
  len : ∀ (w : World), Inv w → Calls Tryd.prog 12 #[p] w fun e w' => e = .returned (.int .i64 (L.length : Int)) ∧ w = w'
  next : ∀ (id : Int) (w : World), Inv w → -9223372036854775808 ≤ id → Calls Tryd.prog 18 #[p, .int .i64 id] w fun e w' => e = .returned (.tuple #[.int .i64 ((tnext id L).getD 0), .bool (tnext id L).isSome]) ∧ w = w'
  yields : ∀ (B0 : Nat), Yields Tryd.prog 30 #[.pointer (some ⟨B0, 0, none⟩)] L.length (encRow L) (fun W => Inv W ∧ Blk W B0 24 #[p])
  stays : ∀ (B : Nat) (w w' : World), Inv w → Stays B w w' → Inv w'
  fr : ∀ (S : Nat → Prop) (w w' : World), Inv w → Fr S w w' → (∀ k, S k → F ≤ k) → Inv w'
theorem IsTab.below {p : Value} {F : Nat} {Inv : World → Prop} {L : TRow} (h : IsTab p F Inv L) {w w' : World} (hi : Inv w) (hb : Below w.heap.size w w') : Inv w' := h.fr (fun _ => False) w w' hi (Fr.of_new hb) (fun _ h => h.elim)

theorem isTab_made {w : World} {T F : Nat} {S : Nat → Prop} {N : Nat} {L : TRow} (h : Tb w T S N L) (hF : ∀ k, S k → k < F) (hg : 0 < F) : IsTab (.pointer (some ⟨T, 0, none⟩)) F (fun W => Tb W T S N L) L where
  one := rfl
  ok := h.ok
  get := fun id w hw => tb_get T N S L id w hw
  len := fun w hw => tb_len T N S L w hw
  next := fun id w hw h64 => tb_next T N S L id w hw h64
  yields := fun B0 => each_yields T N B0 S L
  stays := fun B w w' hw hs => hw.stays hs
  fr := fun S' w w' hw hf hS => hw.fr hf (fun k hk hk' => Nat.lt_irrefl _ (Nat.lt_of_lt_of_le (hF k hk) (hS k hk'))) (fun k hk => Nat.lt_of_lt_of_le hg (hS k hk))

set_option maxHeartbeats 2000000 in
/-- Over a table that nobody made 'Each' goes through nothing. -/
theorem none_yields (p : Value) (Inv : World → Prop) (B0 : Nat) (hN : ∀ w : World, Inv w → Calls Tryd.prog 28 #[p] w fun e w' => e = .returned (.bool true) ∧ w = w') (encs : Nat → Array Value) :
    Yields Tryd.prog 30 #[.pointer (some ⟨B0, 0, none⟩)] 0 encs (fun W => Inv W ∧ Blk W B0 24 #[p]) := by
  intro l J Jx W hJ hJx hS hY h0
  have HS := Lib.hid hS
  clear hJ hJx hS hY
  have H0 := Lib.hid h0
  clear h0
  have NX := Lib.hid (fun (W : World) (h : Inv W) (id : Int) => tab_next_refused p id W (hN W h))
  clear hN
  refine callsIn_of_wp Tryd.func30 rfl trivial ?_ rfl
  simp only [Tryd.ntmps30, List.size_toArray, List.length_cons, List.length_nil, Nat.reduceAdd, Nat.reduceSub, Array.replicate_succ, Array.replicate_zero, List.push_toArray, List.append_toArray, List.nil_append, List.cons_append]
  have cB := (HS.out 0 W H0.out).2.get 0 rfl
  have hd : 1 ≤ 6 := by omega
  gi_wp2_with (refine ⟨trivial, ?_⟩; gi_at_call 18; refine (callsIn_wide.2 (NX.out _ (HS.out 0 W H0.out).1 0)).mono ?_; rintro e w' ⟨rfl, rfl⟩)
  gi_loopw [3, 4] (fun iv bv wr => iv = .int .i64 0 ∧ bv = .bool false ∧ wr = W)
    (fun iv bv _ => 0)
  case atStart => exact ⟨rfl, rfl, rfl⟩
  case round =>
    obtain ⟨rfl, rfl, rfl⟩ := hrel
    gi_wp2
    go_end0
    exact ⟨⟨_, rfl⟩, .inl H0.out⟩

theorem isTab_none {p : Value} {F : Nat} {Inv : World → Prop} (h1 : p.oneCell' = true) (hN : ∀ w : World, Inv w → Calls Tryd.prog 28 #[p] w fun e w' => e = .returned (.bool true) ∧ w = w')
    (hA : ∀ (id : Int) (w : World), Inv w → Calls Tryd.prog 26 #[p, .int .i64 id, .bool true] w fun e w' => e = .returned (.int .i64 1) ∧ w = w')
    (hs : ∀ (B : Nat) (w w' : World), Inv w → Stays B w w' → Inv w') (hf : ∀ (S : Nat → Prop) (w w' : World), Inv w → Fr S w w' → (∀ k, S k → F ≤ k) → Inv w') : IsTab p F Inv [] where
  one := h1
  ok := TOk.nil
  get := fun id w hw => (tab_get_refused p id 1 w (by decide) ((hA id w hw).mono fun e w' ⟨a, b⟩ => ⟨a, 0, b ▸ rfl⟩)).mono fun e w' ⟨a, b⟩ => ⟨a, below_drewN_k b⟩
  len := fun w hw => tab_len_refused p w (hN w hw)
  next := fun id w hw _ => tab_next_refused p id w (hN w hw)
  yields := fun B0 => none_yields p Inv B0 hN _
  stays := hs
  fr := hf
theorem isTab_nil (F : Nat) : IsTab (.pointer none) F (fun _ => True) [] := isTab_none rfl (fun w _ => tab_none_nil w) (fun id w _ => tab_asked_nil id true w) (fun _ _ _ _ _ => trivial) (fun _ _ _ _ _ _ => trivial)
theorem isTab_unmade (T F : Nat) (hT : T < F) (c : Int) : IsTab (.pointer (some ⟨T, 0, none⟩)) F (fun W => Blk W T 58 #[.map none, .int .i64 c]) [] :=
  isTab_none rfl (fun w h => tab_none_unmade T w (h.get 0 rfl)) (fun id w h => tab_asked_unmade T id true w (h.get 0 rfl)) (fun _ _ _ h hs => h.stays hs) (fun S w w' h hf hS => h.fr hf (fun hk => Nat.lt_irrefl _ (Nat.lt_of_lt_of_le hT (hS _ hk))))

set_option maxHeartbeats 4000000 in
theorem is_ids {p : Value} {F : Nat} {Inv : World → Prop} {L : TRow} (HI : IsTab p F Inv L) (w : World) (h : Inv w) (hF : F ≤ w.heap.size) :
    Calls Tryd.prog 17 #[p] w fun e w' => ∃ v, e = .returned v ∧ w'.ownsRow w.heap.size 3 1 v L.length (L.map fun p => .int .i64 p.1) ∧ Below w.heap.size w w' := by
  have HT := Lib.hid (And.intro HI h)
  have h1 := HI.one
  have HF := Lib.hid hF
  clear h HI hF
  refine calls_of_wp_marks Tryd.func17 rfl ?_
  simp only [Tryd.ntmps17, List.size_toArray, List.length_cons, List.length_nil, Nat.reduceAdd, Nat.reduceSub, Array.replicate_succ, Array.replicate_zero, List.push_toArray, List.append_toArray, List.nil_append, List.cons_append]
  go_wp2_with fail
  with_reducible refine (tab_each _ h1 _).mono ?_
  rintro e w1 ⟨rfl, rfl⟩
  go_wp2_with fail
  have bO := (Blk.new w 37 #[.slice none 0 0]).alloc (.cells #[p] 24)
  have bT := Blk.new (w.alloc (.cells #[.slice none 0 0] 37)) 24 #[p]
  simp only [World.size_alloc] at bT
  have hB0 : Below w.heap.size w ((w.alloc (.cells #[.slice none 0 0] 37)).alloc (.cells #[p] 24)) := by go_grown
  have hsz : ((w.alloc (.cells #[.slice none 0 0] 37)).alloc (.cells #[p] 24)).heap.size = w.heap.size + 2 := by simp
  obtain ⟨W0, hW0⟩ : ∃ W0, (w.alloc (.cells #[.slice none 0 0] 37)).alloc (.cells #[p] 24) = W0 := ⟨_, rfl⟩
  rw [hW0] at bO bT hB0 hsz ⊢
  clear hW0
  have hfew := Lib.hid HT.out.1.ok.few
  refine wp_range (gf := 30) (lb := #[.pointer (some ⟨w.heap.size + 1, 0, none⟩)]) rfl (enters_of Tryd.func30 (by kernel_rfl) rfl) (HT.out.1.yields (w.heap.size + 1)) (fun _ _ => rfl)
    (fun k W => (∃ v, Blk W w.heap.size 37 #[v] ∧ W.ownsRow (W0.heap.size + 2) 3 1 v k ((L.take k).map fun p => .int .i64 p.1)) ∧ Inv W ∧ Blk W (w.heap.size + 1) 24 #[p] ∧ Below w.heap.size w W ∧ w.heap.size + 2 ≤ W.heap.size)
    (fun _ _ _ => False) ?hI (fun _ _ _ _ h _ => h) (fun k A h => ⟨h.2.1, h.2.2.1⟩) ?h0 ?hround ?hdone (fun _ _ _ _ h _ => h.elim)
  case hI =>
    rintro k A C ⟨⟨v, h1, h2⟩, h3, h4, h5, h6⟩ hs
    exact ⟨⟨v, h1.stays hs, ownsRow_stays h2 hs⟩, HT.out.1.stays _ _ _ h3 hs, h4.stays hs, below_stays h5 hs (by omega), Nat.le_trans h6 hs.size⟩
  case h0 => exact ⟨⟨_, bO, World.ownsRow_nil _ _ _ _⟩, HT.out.1.below HT.out.2 hB0, bT, hB0, by omega⟩
  case hround =>
    rintro k W hk ⟨⟨v, h1, h2⟩, h3, h4, h5, h6⟩ hlt
    obtain ⟨i, x, q1, q2, q3⟩ := row_at HT.out.1.ok.rises hk
    rw [enc_at q1]
    gi_wp2
    refine ⟨Holds.refl hlt, fun W2 hs => ?_⟩
    have HI := Lib.hid (And.intro (Blk.stays h1 hs) (And.intro (ownsRow_stays h2 hs) (And.intro (HT.out.1.stays _ _ _ h3 hs) (And.intro (Blk.stays h4 hs) (And.intro (below_stays h5 hs (by omega)) (Nat.le_trans h6 hs.size))))))
    have HK := Lib.hid hk
    have HS2 := Lib.hid (Nat.lt_of_lt_of_le hlt hs.size)
    have HQ := Lib.hid q1
    clear h1 h2 h3 h4 h5 h6 hs q1 q2 q3 hlt hk bO bT hB0
    have c1 := HI.out.1.get 0 rfl
    have f1 := HI.out.1.frozen 0
    obtain ⟨i0, hi0, hz0, hs0, hb0⟩ := info_parts (show (Tryd.prog.info? 3).map (fun i => (i.zero, i.size, i.bytes)) = some (some (.int .i64 0), 1, 8) by kernel_rfl)
    have HIF := Lib.hid (And.intro hi0 (And.intro hz0 (And.intro hs0 hb0)))
    clear hi0 hz0 hs0 hb0
    gi_wp2_with (gi_at_builtin; refine wpListIn_append_own _ rfl (.tmp 9) (.tmp 11) 37 rfl (W0.heap.size + 2) 3 i0 (.int .i64 0) 1 8 Tryd.underlying37 HIF.out.1 HIF.out.2.1 HIF.out.2.2.1 HIF.out.2.2.2 rfl (by decide) _ _ _ rfl (HI.out.2.1.alloc _) ⟨W2.heap.size, 0, none⟩ 1 1 [.int .i64 i] rfl rfl (cell_one_new _ _ _) (by simp [Value.oneCell']) (by have := hfew.out; have := HK.out; unfold maxLen; omega) (by have := hfew.out; have := HK.out; omega) (by have := HS2.out; simp; omega) ?_; intro v' w1 hown' hgrow _; obtain ⟨g', cap', rfl⟩ := ownsRow_succ hown'; have HO := Lib.hid (And.intro hown' hgrow); clear hown' hgrow; have b1 := (HI.out.1.alloc _).grown HO.out.2 (own_ne HI.out.2.1 (by omega)); have c2 := b1.get 0 rfl; have f2 := b1.frozen 0)
    have F : Fr (fun j => w.heap.size ≤ j) W2 (w1.setCell ⟨w.heap.size, 0, none⟩ (Value.slice (some ⟨g', 0, none⟩) (k + 1) cap')) := (((Fr.refl _ W2).alloc _).grown HO.out.2 (fun j e _ => by have := own_ge HI.out.2.1 e; omega)).setCell (p := ⟨w.heap.size, 0, none⟩) (fun _ => show w.heap.size ≤ w.heap.size from Nat.le_refl _) _
    refine ⟨(((Holds.refl HS2.out).alloc _).grown HO.out.2 (own_ne HI.out.2.1 (by omega)) (own_ne HI.out.2.1 (by omega))).set (p := ⟨w.heap.size, 0, none⟩) (show w.heap.size ≠ W0.heap.size by omega) (show w.heap.size ≠ W0.heap.size + 1 by omega) _, ⟨_, b1.put 0 _, ?_⟩, HT.out.1.fr _ _ _ HI.out.2.2.1 F (fun j hj => Nat.le_trans HF.out hj), (((HI.out.2.2.2.1.alloc _).grown HO.out.2 (own_ne HI.out.2.1 (by omega))).far (p := ⟨w.heap.size, 0, none⟩) (show w.heap.size + 1 ≠ w.heap.size by omega) _), HI.out.2.2.2.2.1.trans (F.below (by have := HI.out.2.2.2.2.2; omega) (fun j hj hn => by omega)), Nat.le_trans HI.out.2.2.2.2.2 F.size⟩
    rw [take_row HQ.out]
    exact ownsRow_setCell_below HO.out.1 (show w.heap.size < W0.heap.size + 2 by omega) _
  case hdone =>
    rintro W ⟨⟨v, h1, h2⟩, h3, h4, h5, h6⟩ hD
    have c1 := h1.get 0 rfl
    go_wp2
    refine marks_ret (B := w.heap.size) [W0.heap.size] rfl (by intro D hd; simp only [List.mem_singleton] at hd; subst hd; exact ⟨by omega, hD⟩) (by simp) ?_
    intro w' hs
    rw [List.take_length] at h2
    exact ⟨_, results_tmp rfl _ _ _, _, rfl, own_less (ownsRow_stays h2 hs) (by omega), below_stays h5 hs (Nat.le_refl _)⟩


theorem row_formG {w : World} {B n : Nat} {e : TypeId} {v : Value} {xs : List Value} (h : w.ownsRow B e 1 v n xs) : ∃ A c, v = .slice A n c ∧ (0 < n → ∃ g, A = some ⟨g, 0, none⟩ ∧ B ≤ g ∧ g < w.heap.size ∧ ∀ j u, xs[j]? = some u → w.cell? ⟨g, j, none⟩ = some u) := by
  by_cases hn : 0 < n
  · obtain ⟨b, c, rfl, hb⟩ := own_form h hn
    refine ⟨_, c, rfl, fun _ => ⟨b, rfl, hb, (h.lt b rfl).2, fun j u e => ?_⟩⟩
    have := h.cells (g := b) rfl j u e
    have e2 : (⟨b, 0, none⟩ : Addr).add j = ⟨b, j, none⟩ := by
      unfold Addr.add
      split
      · rename_i h0
        rw [h0]
      · simp only [Nat.zero_add]
    rw [e2] at this
    exact this
  · obtain rfl : n = 0 := by omega
    rcases h.2 with ⟨rfl, _⟩ | ⟨g, c, cur, rfl, _⟩
    · exact ⟨none, 0, rfl, fun h => absurd h hn⟩
    · exact ⟨_, c, rfl, fun h => absurd h hn⟩

theorem RowAt.stays {w w' : World} {r B B' : Nat} {v : Value} {L : TRow} (h : RowAt w r B v L) (hs : Stays B' w w') : RowAt w' r B v L := ⟨h.head.stays hs, ownsRow_stays h.own hs⟩
theorem RowAt.fr {w w' : World} {r B : Nat} {v : Value} {L : TRow} {S : Nat → Prop} (h : RowAt w r B v L) (hf : Fr S w w') (hr : ¬ S r) (hv : ∀ k, v.ownBlock = some k → ¬ S k) : RowAt w' r B v L := ⟨h.head.fr hf hr, ownsRow_fr h.own hf hv⟩
theorem RowAt.cells {w : World} {r B n c : Nat} {A : Option Addr} {L : TRow} (h : RowAt w r B (.slice A n c) L) {i : Nat} {p : Int × Int} (e : L[i]? = some p) : ∃ g, A = some ⟨g, 0, none⟩ ∧ g < w.heap.size ∧ w.cell? ⟨g, i * 2, none⟩ = some (.int .i64 p.1) ∧ w.cell? ⟨g, i * 2 + 1, none⟩ = some (.int .u64 p.2) := by
  obtain ⟨A', c', he, -, -, hc⟩ := h.form
  cases he
  obtain ⟨g, h1, -, h2, h3⟩ := hc (by have := (List.getElem?_eq_some_iff.1 e).1; omega)
  exact ⟨g, h1, h2, h3 i p e⟩

set_option maxHeartbeats 16000000 in
theorem tab_same (p : Value) (F : Nat) (Inv : World → Prop) (L : TRow) (r B : Nat) (v : Value) (ask : Int) (w : World) (HI : IsTab p F Inv L) (h : Inv w) (hF : F ≤ w.heap.size) (hr : RowAt w r B v L) (h64 : -9223372036854775808 ≤ ask) :
    Calls Tryd.prog 22 #[p, .pointer (some ⟨r, 0, none⟩), .int .i64 ask] w fun e w' => e = .returned (.bool true) ∧ Below w.heap.size w w' := by
  obtain ⟨A, c, rfl, -⟩ := hr.form
  have HT := Lib.hid (And.intro HI h)
  have h1 := HI.one
  have HF := Lib.hid hF
  have HRW := Lib.hid hr
  have H64 := Lib.hid h64
  have hfew := HI.ok.few
  have HOK := Lib.hid HI.ok
  obtain ⟨l, hll⟩ : ∃ l, L.length = l := ⟨_, rfl⟩
  have HLL := Lib.hid hll
  rw [hll] at hfew HRW
  have HRL := Lib.hid (And.intro HRW.out.head.lt (fun k (hk : (Value.slice A l c).ownBlock = some k) => (HRW.out.own.lt k hk).2))
  clear h HI hF hr h64 hll
  refine calls_of_wp_marks Tryd.func22 rfl ?_
  simp only [Tryd.ntmps22, List.size_toArray, List.length_cons, List.length_nil, Nat.reduceAdd, Nat.reduceSub, Array.replicate_succ, Array.replicate_zero, List.push_toArray, List.append_toArray, List.nil_append, List.cons_append]
  go_wp2_with fail
  with_reducible refine (tab_each _ h1 _).mono ?_
  rintro e w1 ⟨rfl, rfl⟩
  go_wp2_with fail
  obtain ⟨W0, hW0⟩ : ∃ x, (((w.alloc (.cells #[.pointer (some ⟨r, 0, none⟩)] 47)).alloc (.cells #[.bool false] 4)).alloc (.cells #[.int .i64 0] 3)).alloc (.cells #[p] 24) = x := ⟨_, rfl⟩
  have bP : Blk W0 w.heap.size 47 #[.pointer (some ⟨r, 0, none⟩)] := by rw [← hW0]; exact (((Blk.new w _ _).alloc _).alloc _).alloc _
  have bB : Blk W0 (w.heap.size + 1) 4 #[.bool false] := by rw [← hW0]; exact ((Blk.new_at (by simp)).alloc _).alloc _
  have bN : Blk W0 (w.heap.size + 2) 3 #[.int .i64 0] := by rw [← hW0]; exact (Blk.new_at (by simp)).alloc _
  have bT : Blk W0 (w.heap.size + 3) 24 #[p] := by rw [← hW0]; exact Blk.new_at (by simp)
  have hB0 : Below w.heap.size w W0 := by rw [← hW0]; go_grown
  have hsz : W0.heap.size = w.heap.size + 4 := by rw [← hW0]; simp
  rw [hW0]
  clear hW0
  have h0i := HT.out.1.below HT.out.2 hB0
  have h0r := HRW.out.next hB0
  refine wp_range (gf := 30) (lb := #[.pointer (some ⟨w.heap.size + 3, 0, none⟩)]) rfl (enters_of Tryd.func30 (by kernel_rfl) rfl) (HT.out.1.yields (w.heap.size + 3)) (fun _ _ => rfl)
    (fun k W => Inv W ∧ Blk W (w.heap.size + 3) 24 #[p] ∧ Blk W w.heap.size 47 #[.pointer (some ⟨r, 0, none⟩)] ∧ Blk W (w.heap.size + 1) 4 #[.bool false] ∧ Blk W (w.heap.size + 2) 3 #[.int .i64 (k : Int)] ∧ RowAt W r B (.slice A l c) L ∧ Below w.heap.size w W ∧ W0.heap.size ≤ W.heap.size)
    (fun _ _ _ => False) ?hI (fun _ _ _ _ h _ => h) (fun k A h => ⟨h.1, h.2.1⟩) ?h0 ?hround ?hdone (fun _ _ _ _ h _ => h.elim)
  case hI =>
    rintro k A C ⟨h1, h2, h3, h4, h5, h6, h7, h8⟩ hs
    exact ⟨HT.out.1.stays _ _ _ h1 hs, h2.stays hs, h3.stays hs, h4.stays hs, h5.stays hs, h6.stays hs, below_stays h7 hs (by omega), Nat.le_trans h8 hs.size⟩
  case h0 => exact ⟨h0i, bT, bP, bB, bN, h0r, hB0, Nat.le_refl _⟩
  case hround =>
    rintro k W hk ⟨h1, h2, h3, h4, h5, h6, h7, h8⟩ hlt
    obtain ⟨i', x, q1, q2, q3⟩ := row_at HOK.out.rises hk
    rw [enc_at q1]
    gi_wp2
    refine ⟨Holds.refl hlt, fun W2 hs => ?_⟩
    have hlt2 := Nat.lt_of_lt_of_le hlt hs.size
    have HI := Lib.hid (And.intro (HT.out.1.stays _ _ _ h1 hs) (And.intro (Blk.stays h2 hs) (And.intro (Blk.stays h3 hs) (And.intro (Blk.stays h4 hs) (And.intro (Blk.stays h5 hs) (And.intro (h6.stays hs) (And.intro (below_stays h7 hs (by omega)) (Nat.le_trans h8 hs.size))))))))
    have HLT := Lib.hid hlt2
    obtain ⟨g, rfl, hgl, ci, cv⟩ := HI.out.2.2.2.2.2.1.cells q1
    have cP := HI.out.2.2.1.get 0 rfl
    have cN := HI.out.2.2.2.2.1.get 0 rfl
    have fN := HI.out.2.2.2.2.1.frozen 0
    have cH := HI.out.2.2.2.2.2.1.head.get 0 rfl
    dsimp only at ci cv
    have hkl : k < l := by rw [HLL.out] at hk; exact hk
    have p0 : (0 : Int) ≤ (k : Int) := by omega
    have p1 : (k : Int) < (l : Int) := by omega
    have d1 : decide ((l : Int) ≤ (k : Int)) = false := decide_eq_false (by omega)
    have d2 : decide (l ≤ k) = false := decide_eq_false (by omega)
    have e6 : wrap64 ((k : Int) + 1) = ((k + 1 : Nat) : Int) := by unfold wrap64; omega
    have hd : 1 ≤ 5 := by omega
    clear h1 h2 h3 h4 h5 h6 h7 h8 hs hlt hk q1 q2 q3 bT bP bB bN hB0 hlt2 h0i h0r hgl
    gi_wp2_with fail
    refine wpIn_region_round (by kernel_rfl) (by kernel_rfl) (by kernel_rfl) ?_
    repeat (gi_big_quiet_step (fail))
    refine wpQuietIn_nil ?_
    rintro _ ⟨nq, rfl⟩
    gi_wp2
    have F : Fr (fun j => j = w.heap.size + 2) W2 ((W2.drewN nq).setCell ⟨w.heap.size + 2, 0, none⟩ (.int .i64 ((k + 1 : Nat) : Int))) := ((Fr.refl (fun j => j = w.heap.size + 2) W2).drewN nq).setCell (p := ⟨w.heap.size + 2, 0, none⟩) (fun _ => rfl) _
    refine ⟨((Holds.refl HLT.out).drewN nq).set (p := ⟨w.heap.size + 2, 0, none⟩) (show w.heap.size + 2 ≠ W0.heap.size by omega) (show w.heap.size + 2 ≠ W0.heap.size + 1 by omega) _, HT.out.1.fr _ _ _ HI.out.1 F (fun j hj => by have := HF.out; omega), HI.out.2.1.fr F (by show ¬ _ = _; omega), HI.out.2.2.1.fr F (by show ¬ _ = _; omega), HI.out.2.2.2.1.fr F (by show ¬ _ = _; omega), (HI.out.2.2.2.2.1.drewN nq).put 0 _, HI.out.2.2.2.2.2.1.fr F (by have := HRL.out.1; show ¬ _ = _; omega) (fun j hj => by have := HRL.out.2 j hj; show ¬ _ = _; omega), HI.out.2.2.2.2.2.2.1.trans (F.below (by have := HI.out.2.2.2.2.2.2.2; omega) (fun j hj hn => by omega)), Nat.le_trans HI.out.2.2.2.2.2.2.2 F.size⟩
  case hdone =>
    rintro W ⟨h1, h2, h3, h4, h5, h6, h7, h8⟩ hD
    rw [HLL.out] at h5
    have HW := Lib.hid (And.intro h1 (And.intro h3 (And.intro h4 (And.intro h5 (And.intro h6 (And.intro h7 (And.intro h8 hD)))))))
    have hFW : F ≤ W.heap.size := by have := HF.out; omega
    have hwW : w.heap.size + 3 < W.heap.size := by omega
    clear h1 h2 h3 h4 h5 h6 h7 h8 hD bT bP bB bN hB0 h0i h0r
    go_wp2_with fail
    with_reducible refine (is_ids HT.out.1 W HW.out.1 hFW).mono ?_
    rintro e w8 ⟨vv, rfl, hrow, hb8⟩
    obtain ⟨A8, c8, rfl, hcells⟩ := row_formG hrow
    have HC := Lib.hid hcells
    rw [HLL.out] at HC ⊢
    have H8 := Lib.hid (And.intro (HT.out.1.below HW.out.1 hb8) (And.intro hb8 (HW.out.2.2.2.2.1.next hb8)))
    clear hrow hb8 hcells
    go_wp2_with fail
    with_reducible refine (HT.out.1.get ask w8 H8.out.1).mono ?_
    rintro e w9 ⟨rfl, hb9⟩
    have H9 := Lib.hid (And.intro (HT.out.1.below H8.out.1 hb9) (And.intro (below_next H8.out.2.1 hb9) (And.intro (H8.out.2.2.next hb9) (And.intro (H8.out.2.1.size) hb9))))
    obtain ⟨ga, hga⟩ : ∃ x, (tget ask L).getD 0 = x := ⟨_, rfl⟩
    obtain ⟨gs, hgs⟩ : ∃ x, (tget ask L).isSome = x := ⟨_, rfl⟩
    rw [hga, hgs]
    have HG := Lib.hid (And.intro hga hgs)
    have cP := ((HW.out.2.1.next H9.out.2.1)).get 0 rfl
    have HX := Lib.hid hb9
    clear hb9 hga hgs
    go_wp2_with fail
    with_reducible refine (ref_at r B _ L ask w9 H9.out.2.2.1 HOK.out.rises (by rw [HLL.out]; exact hfew)).mono ?_
    rintro e w10 ⟨hb10, kk, rfl, hk⟩
    have HK := Lib.hid hk
    have H10 := Lib.hid (And.intro (HT.out.1.below H9.out.1 hb10) (And.intro (below_next H9.out.2.1 hb10) (H9.out.2.2.1.next hb10)))
    replace HX := Lib.hid (below_next HX.out hb10)
    clear hb10 hk cP
    have cP := ((HW.out.2.1.next H10.out.2.1)).get 0 rfl
    go_wp2_with fail
    with_reducible refine (HT.out.1.next ask w10 H10.out.1 H64.out).mono ?_
    rintro e wx ⟨rfl, rfl⟩
    go_wp2_with fail
    with_reducible refine (ref_next r B _ L ask w10 H10.out.2.2 HOK.out.rises (by rw [HLL.out]; exact hfew)).mono ?_
    rintro e w11 ⟨rfl, hb11⟩
    have H11 := Lib.hid (And.intro (HT.out.1.below H10.out.1 hb11) (And.intro (below_next H10.out.2.1 hb11) (H10.out.2.2.next hb11)))
    replace HX := Lib.hid (below_next HX.out hb11)
    clear hb11 cP
    obtain ⟨nx, hnx⟩ : ∃ x, (tnext ask L).getD 0 = x := ⟨_, rfl⟩
    obtain ⟨nb, hnb⟩ : ∃ x, (tnext ask L).isSome = x := ⟨_, rfl⟩
    rw [hnx, hnb]
    clear hnx hnb
    have LT : Hid (∀ k, Calls Tryd.prog 12 #[p] (w11.drewN k) fun e w'' => e = .returned (.int .i64 (l : Int)) ∧ ∃ q, w'' = w11.drewN q) := fun k => (HT.out.1.len _ (HT.out.1.below H11.out.1 (below_of_drewN _ _ _))).mono (by rintro e w' ⟨rfl, rfl⟩; exact ⟨by rw [HLL.out], k, rfl⟩)
    have bP := HW.out.2.1.next H11.out.2.1
    have bN := HW.out.2.2.2.1.next H11.out.2.1
    have cP := bP.get 0 rfl
    have cN := bN.get 0 rfl
    have cH := H11.out.2.2.head.get 0 rfl
    clear bP bN
    have hcase : (ga = 0 ∧ gs = false ∧ kk = -1) ∨ ∃ (i g : Nat) (x : Int), i < l ∧ gs = true ∧ ga = x ∧ kk = (i : Int) ∧ A = some ⟨g, 0, none⟩ ∧ w11.cell? ⟨g, i * 2 + 1, none⟩ = some (.int .u64 x) := by
      rcases HK.out with ⟨h0, rfl⟩ | ⟨i, x, rfl, hq, hx⟩
      · refine Or.inl ⟨?_, ?_, rfl⟩
        · rw [← HG.out.1, h0]; rfl
        · rw [← HG.out.2, h0]; rfl
      · obtain ⟨g, e1, -, -, e2⟩ := H11.out.2.2.cells hq
        refine Or.inr ⟨i, g, x, by rw [← HLL.out]; exact (List.getElem?_eq_some_iff.1 hq).1, ?_, ?_, rfl, e1, e2⟩
        · rw [← HG.out.2, hx]; rfl
        · rw [← HG.out.1, hx]; rfl
    have HFL := Lib.hid hfew
    clear HK HG
    rcases hcase with ⟨rfl, rfl, rfl⟩ | ⟨i, g, x, hil, rfl, rfl, rfl, rfl, cx⟩
    case' inr =>
      have p0 : (0 : Int) ≤ (i : Int) := by omega
      have p1 : (i : Int) < (l : Int) := by omega
      have d1 : decide ((0 : Int) ≤ (i : Int)) = true := decide_eq_true p0
      clear hil
    all_goals
      go_wp2_with (first | go_quiet ((first | (go_at_call 12; exact LT.out _))))
      obtain ⟨wd, hwd⟩ : ∃ x, w11.drewN nq = x := ⟨_, rfl⟩
      have hbd : Below w11.heap.size w11 wd := by rw [← hwd]; exact below_of_drewN _ _ _
      rw [hwd]
      clear hwd cP cN cH
      have HD := Lib.hid (And.intro (below_next H11.out.2.1 hbd) (And.intro (H11.out.2.2.next hbd) hbd))
      have hsd : W.heap.size ≤ wd.heap.size := HD.out.1.size
      replace HX := Lib.hid (below_next HX.out hbd)
      clear hbd LT
      go_loopg [18] l (fun gk ix wr => ∃ j : Nat, j + gk = l ∧ ix = .int .i64 j ∧ Below wd.heap.size wd wr)
      case atStart => exact ⟨0, by omega, rfl, Below.refl _ _⟩
      case round =>
        obtain ⟨j, hj, rfl, hb⟩ := hrel
        have HBR := Lib.hid hb
        obtain ⟨wo, rfl⟩ : ∃ x : World, x = wr := ⟨_, rfl⟩
        have HBW := Lib.hid (below_next HD.out.1 hb)
        have HRO := Lib.hid (HD.out.2.1.next hb)
        have HXO := Lib.hid (below_next HX.out hb)
        have bP := HW.out.2.1.next HBW.out
        have bN := HW.out.2.2.2.1.next HBW.out
        have cP := bP.get 0 rfl
        have cN := bN.get 0 rfl
        have cH := HRO.out.head.get 0 rfl
        have HBB := Lib.hid (HW.out.2.2.1.next HBW.out)
        clear hb bP bN
        by_cases hlt : j < l
        · obtain ⟨gm, rfl⟩ : ∃ gm, gk = gm + 1 := ⟨gk - 1, by omega⟩
          obtain ⟨yi, yx, q1, q2⟩ := row_lookup (L := L) (i := j) (by rw [HLL.out]; exact hlt)
          obtain ⟨g2, hg2, -, ci, -⟩ := HRO.out.cells q1
          obtain ⟨g3, rfl, -, hg4, hg5⟩ := HC.out (by omega)
          have ck := (HXO.out.cell (p := ⟨g3, j, none⟩) hg4).trans (hg5 j (.int .i64 yi) (by rw [List.getElem?_map, q1]; rfl))
          cases hg2
          dsimp only at ci
          have p0' : (0 : Int) ≤ (j : Int) := by omega
          have p1' : (j : Int) < (l : Int) := by omega
          have e5 : wrap64 ((j : Int) + 1) = ((j + 1 : Nat) : Int) := by have := HFL.out; unfold wrap64; omega
          clear q1 q2 hg4 hg5
          go_wp2_with (go_quiet (fail))
          go_roundg gm
          case rel => exact ⟨j + 1, by omega, by go_num, HBR.out.trans ((below_of_drewN _ _ _).mono HBR.out.size)⟩
          case measure => omega
        · obtain rfl : gk = 0 := by omega
          obtain rfl : j = l := by omega
          have cB := HBB.out.get 0 rfl
          have fB := HBB.out.frozen 0
          have hDD := HW.out.2.2.2.2.2.2.2
          have HDD := Lib.hid ((HBW.out.block _ (Array.getElem?_eq_some_iff.1 hDD).1).trans hDD)
          have HBF := Lib.hid (HW.out.2.2.2.2.2.1.trans (HBW.out.mono (by omega)))
          clear hlt hDD
          go_wp2
          refine marks_ret (B := w.heap.size) [w.heap.size + 4] rfl (by intro D hd; simp only [List.mem_singleton] at hd; subst hd; exact ⟨by omega, by rw [Below.heap_setCell _ _ _ _ (show w.heap.size + 4 ≠ w.heap.size + 1 by omega)]; rw [← hsz]; exact HDD.out⟩) (by simp) ?_
          intro w' hs
          have HBF2 := HBF.out.setCell (p := ⟨w.heap.size + 1, 0, none⟩) (show w.heap.size ≤ w.heap.size + 1 by omega) (.bool true)
          have hr := Blk.get ((HBB.out.put 0 (.bool true)).stays hs) 0 rfl
          refine ⟨.bool true, by simp [results, Tryd.results22, go_sem, hr]; try rfl, rfl, below_stays HBF2 hs (Nat.le_refl _)⟩

end Go.Proofs.YtddehgcdflfonaaDoor
