/-
  The law TableGone, walked.
-/
import Derived.Test.YtddehgcdflfonaaDoorProg
import Derived.Test.YtddehgcdflfonaaDoorTabH
import Derived.Test.YtddehgcdflfonaaDoorTabCols
namespace Go.Proofs.YtddehgcdflfonaaDoor
set_option linter.unusedVariables false
set_option linter.unusedSimpArgs false
set_option maxRecDepth 100000
open Go.RowKit Go.Shelf

attribute [local go_sem] Oper.semAt_some

/-- How a row of the walk's own is told. -/
theorem row_formG {w : World} {B n : Nat} {e : TypeId} {v : Value} {xs : List Value} (h : w.ownsRow B e 1 v n xs) : ∃ A c, v = .slice A n c ∧ (0 < n → ∃ g, A = some ⟨g, 0, none⟩ ∧ B ≤ g ∧ g < w.heap.size ∧ ∀ j u, xs[j]? = some u → w.cell? ⟨g, j, none⟩ = some u) := by
  by_cases hn : 0 < n
  · obtain ⟨b, c, rfl, hb⟩ := own_form h hn
    refine ⟨_, c, rfl, fun _ => ⟨b, rfl, hb, (h.lt b rfl).2, fun j u e => ?_⟩⟩
    have := h.cells (g := b) rfl j u e
    have e2 : (⟨b, 0, none⟩ : Addr).add j = ⟨b, j, none⟩ := by
      unfold Addr.add
      split
      · rename_i h0
        rw [h0]
      · simp only [Nat.zero_add]
    rw [e2] at this
    exact this
  · obtain rfl : n = 0 := by omega
    rcases h.2 with ⟨rfl, _⟩ | ⟨g, c, cur, rfl, _⟩
    · exact ⟨none, 0, rfl, fun h => absurd h hn⟩
    · exact ⟨_, c, rfl, fun h => absurd h hn⟩

theorem tdel_tput {L : TRow} {id v : Int} (h : tget id L = none) (h1 : 1 ≤ id) (h2 : id ≤ 65535) : tdel id (tput id v L) = L := by
  unfold tput
  rw [if_pos ⟨h1, h2, h⟩, tdel_ins h]
theorem tdel_first {L : TRow} (h : TOk L) {i : Nat} (hi : i < L.length) : tdel (L[i]).1 (L.drop i) = L.drop (i + 1) ∧ tget (L[i]).1 (L.drop i) = some (L[i]).2 ∧ tget (L[i]).1 (L.drop (i + 1)) = none := by
  have e : L.drop i = L[i] :: L.drop (i + 1) := List.drop_eq_getElem_cons hi
  have hn : tget (L[i]).1 (L.drop (i + 1)) = none := tget_none.2 fun p hp => by
    obtain ⟨j, hj, rfl⟩ := List.getElem_of_mem hp
    rw [List.length_drop] at hj
    rw [List.getElem_drop]
    have := rises_at h.rises hi (show i + 1 + j < L.length by omega) (by omega)
    omega
  rw [e]
  refine ⟨?_, by simp [tget], hn⟩
  have := tdel_none hn
  unfold tdel at this ⊢
  rw [List.filter_cons, if_neg (by simp)]
  exact this
theorem tok_drop {L : TRow} (h : TOk L) (i : Nat) : TOk (L.drop i) := ⟨List.Pairwise.sublist (List.drop_sublist i L) h.rises, fun p hp => h.ids p (List.mem_of_mem_drop hp), fun p hp => h.words p (List.mem_of_mem_drop hp)⟩
theorem tnext_nil (id : Int) : (tnext id ([] : TRow)).getD 0 = 0 ∧ (tnext id ([] : TRow)).isSome = false := ⟨rfl, rfl⟩

set_option maxHeartbeats 16000000 in
theorem tableGone_walk (w : World) (hB : BrAt w) (A : Option Addr) (n c : Nat) (K : Nat → Int) (fK : ∀ i, i < n → (Lit.int .u8 (K i)).wf = true) (I : Nat → Int) (fI : ∀ i, i < n → (Lit.int .i64 (I i)).wf = true) (V : Nat → Int) (fV : ∀ i, i < n → (Lit.int .u64 (V i)).wf = true) (Q : Nat → Int) (fQ : ∀ i, i < n → (Lit.int .i64 (Q i)).wf = true) (hl : n ≤ c) (hm : c ≤ maxLen)
    (hA : 0 < n → ∃ b off, A = some ⟨b, off, none⟩ ∧ b < w.heap.size) (hK : ∀ b off, A = some ⟨b, off, none⟩ → ∀ i, i < n → w.cell? ⟨b, off + (i * 4 + 0), none⟩ = some (.int .u8 (K i))) (hI : ∀ b off, A = some ⟨b, off, none⟩ → ∀ i, i < n → w.cell? ⟨b, off + (i * 4 + 1), none⟩ = some (.int .i64 (I i)))
    (hV : ∀ b off, A = some ⟨b, off, none⟩ → ∀ i, i < n → w.cell? ⟨b, off + (i * 4 + 2), none⟩ = some (.int .u64 (V i))) (hQ : ∀ b off, A = some ⟨b, off, none⟩ → ∀ i, i < n → w.cell? ⟨b, off + (i * 4 + 3), none⟩ = some (.int .i64 (Q i)))
    (ak : Int) (fak : (Lit.int .u8 ak).wf = true) (id : Int) (fid : (Lit.int .i64 id).wf = true) (v : Int) (fv : (Lit.int .u64 v).wf = true) (ask : Int) (fask : (Lit.int .i64 ask).wf = true) :
    Calls Tryd.prog 8 #[.slice A n c, .agg #[.int .u8 ak, .int .i64 id, .int .u64 v, .int .i64 ask]] w fun e w' => e = .returned (.bool true) ∧ Below w.heap.size w w' := by
  have HA := Lib.hid (tacts_of hA hK hI hV hQ)
  have HM : Hid (TMay (colF K n) (colF I n) (colF V n) (colF Q n)) := ⟨colF_byte fK, colF_int fI, colF_word (fun i hi => word_of_wf (fV i hi)), colF_int fQ⟩
  have HB := Lib.hid hB
  have HV := Lib.hid (word_of_wf fv)
  have HLC := Lib.hid (And.intro hl hm)
  clear hA hK hI hV hQ fK fI fV fQ hB hl hm fak fid fv fask
  generalize colF K n = K at HA HM
  generalize colF I n = I at HA HM
  generalize colF V n = V at HA HM
  generalize colF Q n = Q at HA HM
  obtain ⟨w0, hw0⟩ : ∃ x, (w.alloc (.cells #[.int .u8 ak, .int .i64 id, .int .u64 v, .int .i64 ask] 28)).alloc (.cells #[.bool false] 4) = x := ⟨_, rfl⟩
  have hz0 : w0.heap.size = w.heap.size + 2 := by rw [← hw0]; simp
  have B0 : Below w.heap.size w w0 := by rw [← hw0]; go_grown
  have bP : Blk w0 w.heap.size 28 #[.int .u8 ak, .int .i64 id, .int .u64 v, .int .i64 ask] := by rw [← hw0]; exact (Blk.new w _ _).alloc _
  have bR : Blk w0 (w.heap.size + 1) 4 #[.bool false] := by rw [← hw0]; exact Blk.new_at (by simp)
  have HW0 := Lib.hid (And.intro hz0 (And.intro B0 (And.intro bP bR)))
  have KA : Hid (∀ (W W' : World), Below W.heap.size W W' → w.heap.size ≤ W.heap.size → TActs W A n K I V Q → TActs W' A n K I V Q) := fun W W' hb hz h => h.next hb (fun b off hn e => by obtain ⟨b', off', e', h⟩ := HA.out.addr hn; rw [e] at e'; cases e'; omega)
  have HA0 := Lib.hid (KA.out w w0 B0 (Nat.le_refl _) HA.out)
  clear hz0 B0 bP bR
  have HEQ := Lib.hid hw0
  clear hw0
  refine calls_of_wp_marks Tryd.func8 rfl ?_
  simp only [Tryd.ntmps8, List.size_toArray, List.length_cons, List.length_nil, Nat.reduceAdd, Nat.reduceSub, Array.replicate_succ, Array.replicate_zero, List.push_toArray, List.append_toArray, List.nil_append, List.cons_append]
  go_wp2_with fail
  rw [HEQ.out]
  with_reducible refine (tab_awake w0 (HB.out.next HW0.out.2.1)).mono ?_
  rintro e w1 ⟨rfl, hb1⟩
  have HB1 := Lib.hid (And.intro ((HB.out.next HW0.out.2.1).next hb1) (And.intro (HW0.out.2.1.trans (hb1.mono (by have := HW0.out.1; omega))) (And.intro (HW0.out.2.2.1.next hb1) (And.intro (HW0.out.2.2.2.next hb1) (KA.out _ _ hb1 (by have := HW0.out.1; omega) HA0.out)))))
  have hz1 : w.heap.size + 1 < w1.heap.size := by have := hb1.size; have := HW0.out.1; omega
  clear hb1 HA0 HW0 HEQ
  have hsmall : 200 < n ∨ n ≤ 200 := by omega
  rcases hsmall with hn | hn
  · go_wp2_with fail
    with_reducible refine (acted_many A n c w1 HB1.out.1 hn HLC.out.2 HLC.out.1).mono ?_
    rintro e w2 ⟨rfl, hb2⟩
    have H2 := Lib.hid (below_next HB1.out.2.1 hb2)
    have bR := HB1.out.2.2.2.1.next hb2
    have HRR := Lib.hid bR
    have cR := bR.get 0 rfl
    have fR := bR.frozen 0
    have hz2 := hb2.size
    have hz3 : w.heap.size + 1 < w2.heap.size := by omega
    clear hb2 bR
    go_wp2
    refine marks_ret (B := w.heap.size) [] rfl (by intro D hd; cases hd) (by simp) ?_
    intro w' hs
    have HBW := (H2.out.setCell (p := ⟨w.heap.size + 1, 0, none⟩) (show w.heap.size ≤ w.heap.size + 1 by omega) (.bool true)).alloc (by simp only [World.size_setCell]; omega) (.cells #[.pointer none] 24)
    have hr := Blk.get (((HRR.out.put 0 (.bool true)).alloc _).stays hs) 0 rfl
    refine ⟨.bool true, by simp [results, Tryd.results8, go_sem, hr]; try rfl, rfl, below_stays HBW hs (Nat.le_refl _)⟩
  · have HN := Lib.hid hn
    go_wp2_with fail
    with_reducible refine (acted_any A n c K I V Q w1 HB1.out.1 HB1.out.2.2.2.2 HM.out hn HLC.out.1 HLC.out.2).mono ?_
    rintro e w2 ⟨T, S, rfl, hT, hb2, hS⟩
    obtain ⟨L, hL⟩ : ∃ L, actRow K I V n = L := ⟨_, rfl⟩
    rw [hL] at hT
    clear hL hn
    obtain ⟨w3, hw3⟩ : ∃ x, w2.alloc (.cells #[.pointer (some ⟨T, 0, none⟩)] 24) = x := ⟨_, rfl⟩
    have hb3 : Below w2.heap.size w2 w3 := by rw [← hw3]; exact (Below.refl _ _).alloc (Nat.le_refl _) _
    have hz3 : w3.heap.size = w2.heap.size + 1 := by rw [← hw3]; simp
    have bT : Blk w3 w2.heap.size 24 #[.pointer (some ⟨T, 0, none⟩)] := by rw [← hw3]; exact Blk.new w2 _ _
    have HEQ3 := Lib.hid hw3
    clear hw3
    have hz12 := hb2.size
    have HT3 := Lib.hid (And.intro (hT.next hb3) (And.intro bT (And.intro (below_next (below_next HB1.out.2.1 hb2) hb3) (And.intro ((HB1.out.2.2.1.next hb2).next hb3) ((HB1.out.2.2.2.1.next hb2).next hb3)))))
    have HS := Lib.hid (And.intro hS hT.lt)
    have cT := bT.get 0 rfl
    have HOK := Lib.hid hT.ok
    clear hT hb2 hS hb3 bT HB1
    go_wp2_with fail
    rw [HEQ3.out]
    with_reducible refine (tb_copy_nil T n S L w3 HT3.out.1).mono ?_
    rintro e w4 ⟨C, SC, rfl, hC, hb4, hSC⟩
    rw [mapRow_id] at hC
    have HT4 := Lib.hid (And.intro (HT3.out.1.next hb4) (And.intro (HT3.out.2.1.next hb4) (And.intro (below_next HT3.out.2.2.1 hb4) (And.intro (HT3.out.2.2.2.1.next hb4) (And.intro (HT3.out.2.2.2.2.next hb4) hC)))))
    have HSC := Lib.hid (fun k (hk : SC k) => And.intro (hSC k hk) (hC.lt k hk))
    have hz4 : w3.heap.size ≤ w4.heap.size := hb4.size
    clear hb4 hSC hC HT3 HEQ3 cT
    have KF : Hid (∀ W, Fr S w4 W → Blk W w2.heap.size 24 #[.pointer (some ⟨T, 0, none⟩)] ∧ Below w.heap.size w W ∧ Blk W w.heap.size 28 #[.int .u8 ak, .int .i64 id, .int .u64 v, .int .i64 ask] ∧ Blk W (w.heap.size + 1) 4 #[.bool false] ∧ Tb W C SC L.length L) := fun W hf =>
      ⟨HT4.out.2.1.fr hf (fun h => by have := HS.out.2 _ h; omega), HT4.out.2.2.1.trans (hf.below (by omega) (fun k hk hs => by have := HS.out.1 k hs; omega)), HT4.out.2.2.2.1.fr hf (fun h => by have := HS.out.1 _ h; omega), HT4.out.2.2.2.2.1.fr hf (fun h => by have := HS.out.1 _ h; omega), HT4.out.2.2.2.2.2.fr hf (fun k hk h => by have := HS.out.2 _ h; have := HSC.out k hk; omega) (fun k hk => HT4.out.1.big k hk)⟩
    have cT := HT4.out.2.1.get 0 rfl
    have cI := HT4.out.2.2.2.1.get 1 rfl
    have cV := HT4.out.2.2.2.1.get 2 rfl
    have PUT := Lib.hid (tb_put T n S L id v w4 HT4.out.1 HV.out (by have := HN.out; omega))
    obtain ⟨l, hll⟩ : ∃ l, L.length = l := ⟨_, rfl⟩
    have HLL := Lib.hid hll
    have hl200 : l ≤ 65535 := by rw [← hll]; exact HOK.out.few
    clear hll
    have HZ := Lib.hid (show w.heap.size + 1 < w1.heap.size ∧ w1.heap.size ≤ w2.heap.size ∧ w2.heap.size < w4.heap.size by omega)
    have hc3 : (1 ≤ id ∧ id ≤ 65535 ∧ tget id L = none) ∨ ¬ (1 ≤ id ∧ id ≤ 65535 ∧ tget id L = none) := Classical.em _
    rcases hc3 with hc | hc
    case' inl =>
      rw [askE_free hc.1 hc.2.1 hc.2.2] at PUT
      have HDEL := Lib.hid (tdel_tput (v := v) hc.2.2 hc.1 hc.2.1)
      have HDE := Lib.hid (show askE (tput id v L) id true = 0 from askE_some (tput_ok HOK.out (id := id) HV.out) (tput_get (v := v) hc.1 hc.2.1 hc.2.2) true)
      clear hc
      go_wp2_with fail
      with_reducible refine PUT.out.mono ?_
      rintro e w5 ⟨rfl, S', hT5, hF5, hN5⟩
      have H5 := Lib.hid (And.intro (KF.out w5 hF5) (And.intro hF5 hN5))
      have DRP := Lib.hid (tb_drop T (n + 1) S' _ id w5 hT5)
      rw [HDE.out, HDEL.out] at DRP
      clear hT5 hF5 hN5 cT cI cV PUT
      have cT := H5.out.1.1.get 0 rfl
      have cI := H5.out.1.2.2.1.get 1 rfl
      go_wp2_with fail
      with_reducible refine DRP.out.mono ?_
      rintro e w6 ⟨rfl, hT6, hF6⟩
      have H6 := Lib.hid (And.intro hT6 (And.intro (KF.out w6 (H5.out.2.1.then hF6 (fun i hi hs => (H5.out.2.2 i hs).elim (fun h => h) (fun h => absurd hi (by omega))))) (And.intro H5.out.2.2 (Nat.le_trans H5.out.2.1.size hF6.size))))
      clear hT6 hF6 H5 DRP HDEL HDE cI cT
    case' inr =>
      have hE : (askE L id false == 0) = false := by
        rw [beq_eq_false_iff_ne]
        by_cases h1 : 1 ≤ id ∧ id ≤ 65535
        · rcases hg : tget id L with _ | v0
          · exact absurd ⟨h1.1, h1.2, hg⟩ hc
          · rw [askE_some HOK.out hg]
            decide
        · rw [askE_not h1]
          decide
      have hP : tput id v L = L := by unfold tput; rw [if_neg hc]
      rw [hP] at PUT
      clear hP hc
      obtain ⟨E, hEE⟩ : ∃ x, askE L id false = x := ⟨_, rfl⟩
      rw [hEE] at PUT hE
      clear hEE
      go_wp2_with fail
      with_reducible refine PUT.out.mono ?_
      rintro e w6 ⟨rfl, S', hT6, hF6, hN6⟩
      have H6 := Lib.hid (And.intro hT6 (And.intro (KF.out w6 hF6) (And.intro hN6 hF6.size)))
      clear hT6 hF6 hN6 PUT cT cI cV
    all_goals
      clear HT4 KF HN HV
      have cT := H6.out.2.1.1.get 0 rfl
      have cR := H6.out.2.1.2.2.2.1.get 0 rfl
      go_wp2_with fail
      with_reducible refine (tb_len T _ S' L w6 H6.out.1).mono ?_
      rintro e wx ⟨rfl, rfl⟩
      go_wp2_with fail
      with_reducible refine (tb_len C _ SC L w6 H6.out.2.1.2.2.2.2).mono ?_
      rintro e wx ⟨rfl, rfl⟩
      go_wp2_with fail
      with_reducible refine (tab_each _ rfl _).mono ?_
      rintro e w7 ⟨rfl, rfl⟩
      go_wp2_with fail
      have bC := Blk.new w6 24 #[.pointer (some ⟨C, 0, none⟩)]
      have hBo : Below w6.heap.size w6 (w6.alloc (.cells #[.pointer (some ⟨C, 0, none⟩)] 24)) := (Below.refl _ _).alloc (Nat.le_refl _) _
      have hsz : w6.heap.size + 1 ≤ (w6.alloc (.cells #[.pointer (some ⟨C, 0, none⟩)] 24)).heap.size := by simp
      obtain ⟨W0, hW0⟩ : ∃ x, w6.alloc (.cells #[.pointer (some ⟨C, 0, none⟩)] 24) = x := ⟨_, rfl⟩
      rw [hW0] at bC hBo hsz ⊢
      clear hW0
      have hws : w.heap.size + 1 < w6.heap.size := by have := HZ.out; have := H6.out.2.2.2; omega
      have hT0 := H6.out.1.next hBo
      have HS0 := Lib.hid hT0.lt
      have hC0 := H6.out.2.1.2.2.2.2.next hBo
      have hb0 := H6.out.2.1.1.next hBo
      have hr0 := H6.out.2.1.2.2.2.1.next hBo
      have hB0 := below_next H6.out.2.1.2.1 hBo
      refine wp_range (gf := 30) (lb := #[.pointer (some ⟨w6.heap.size, 0, none⟩)]) rfl (enters_of Tryd.func30 (by kernel_rfl) rfl) (each_yields C L.length w6.heap.size SC L) (fun _ _ => rfl)
        (fun k W => Tb W C SC L.length L ∧ Blk W w6.heap.size 24 #[.pointer (some ⟨C, 0, none⟩)] ∧ Tb W T S' (n + 1) L ∧ Blk W w2.heap.size 24 #[.pointer (some ⟨T, 0, none⟩)] ∧ Blk W (w.heap.size + 1) 4 #[.bool false] ∧ Below w.heap.size w W ∧ W0.heap.size ≤ W.heap.size)
        (fun _ _ _ => False) ?hI (fun _ _ _ _ h _ => h) (fun k A h => ⟨h.1, h.2.1⟩) ?h0 ?hround ?hdone (fun _ _ _ _ h _ => h.elim)
      case hI =>
        rintro k A C ⟨h1, h2, h3, h4, h5, h6, h7⟩ hs
        exact ⟨h1.stays hs, h2.stays hs, h3.stays hs, h4.stays hs, h5.stays hs, below_stays h6 hs (by omega), Nat.le_trans h7 hs.size⟩
      case h0 => exact ⟨hC0, bC, hT0, hb0, hr0, hB0, Nat.le_refl _⟩
      case hround =>
        rintro k W hk ⟨h1, h2, h3, h4, h5, h6, h7⟩ hlt
        obtain ⟨i', x, q1, q2, q3⟩ := row_at HOK.out.rises hk
        rw [enc_at q1]
        gi_wp2
        refine ⟨Holds.refl hlt, fun W2 hs => ?_⟩
        have hlt2 := Nat.lt_of_lt_of_le hlt hs.size
        have HI := Lib.hid (And.intro (h1.stays hs) (And.intro (Blk.stays h2 hs) (And.intro (h3.stays hs) (And.intro (Blk.stays h4 hs) (And.intro (Blk.stays h5 hs) (And.intro (below_stays h6 hs (by omega)) (Nat.le_trans h7 hs.size)))))))
        have HLT := Lib.hid hlt2
        have cT := HI.out.2.2.2.1.get 0 rfl
        have hd : 1 ≤ 5 := by omega
        have GET := Lib.hid (tb_get T (n + 1) S' L i' W2 HI.out.2.2.1)
        rw [q3] at GET
        clear h1 h2 h3 h4 h5 h6 h7 hs hlt hk q1 q2 q3 bC hBo hlt2 hT0 hC0 hb0 hr0 hB0
        gi_wp2_with (first | (refine ⟨trivial, ?_⟩; gi_at_call 11; refine (CallsIn.inRound (W0.heap.size + 1) (callsIn_wide.2 GET.out)).mono ?_; rintro e W3 ⟨rfl, hb3⟩; have HB3 := Lib.hid hb3; clear hb3))
        refine ⟨(Holds.refl HLT.out).next HB3.out, HI.out.1.next HB3.out, Blk.next HI.out.2.1 HB3.out, HI.out.2.2.1.next HB3.out, Blk.next HI.out.2.2.2.1 HB3.out, Blk.next HI.out.2.2.2.2.1 HB3.out, below_next HI.out.2.2.2.2.2.1 HB3.out, Nat.le_trans HI.out.2.2.2.2.2.2 HB3.out.size⟩
      case hdone =>
        rintro W ⟨h1, h2, h3, h4, h5, h6, h7⟩ hD
        have cT := h4.get 0 rfl
        have HW := Lib.hid (And.intro h1 (And.intro h3 (And.intro h4 (And.intro h5 (And.intro h6 (And.intro h7 hD))))))
        have hwW : w.heap.size + 1 < W.heap.size := by omega
        clear h1 h2 h3 h4 h5 h6 h7 hD hT0 hC0 hb0 hr0 hB0 bC hBo
        go_wp2_with fail
        with_reducible refine (tb_ids T (n + 1) S' L W HW.out.2.1).mono ?_
        rintro e w8 ⟨vv, rfl, hrow, hb8⟩
        obtain ⟨A8, c8, rfl, hcells⟩ := row_formG hrow
        have HR := Lib.hid hcells
        have H8 := Lib.hid (And.intro (HW.out.1.next hb8) (And.intro (HW.out.2.1.next hb8) (And.intro (HW.out.2.2.1.next hb8) (And.intro (HW.out.2.2.2.1.next hb8) (And.intro (below_next HW.out.2.2.2.2.1 hb8) (And.intro hb8.size ((hb8.block _ (Array.getElem?_eq_some_iff.1 HW.out.2.2.2.2.2.2).1).trans HW.out.2.2.2.2.2.2)))))))
        have HSS := Lib.hid (show (∀ k, S' k → w1.heap.size ≤ k ∧ k ≠ w2.heap.size ∧ ∀ j, SC j → j ≠ k) ∧ ∀ k, S' k → k < W.heap.size from
          ⟨fun k hk => by
            have hz := HZ.out
            rcases H6.out.2.2.1 k hk with h | h
            · have h1 := HS.out.1 k h
              have h2 := HS.out.2 k h
              exact ⟨h1, by omega, fun j hj => by have := (HSC.out j hj).1; omega⟩
            · exact ⟨by omega, by omega, fun j hj => by have := (HSC.out j hj).2; omega⟩, HW.out.2.1.lt⟩)
        clear hrow hb8 hcells
        rw [HLL.out] at HR ⊢
        go_wp2
        go_loopg [12] l (fun gk ix wr => ∃ i : Nat, i + gk = l ∧ ix = .int .i64 i ∧ Tb wr T S' (n + 1) (L.drop i) ∧ Fr S' w8 wr)
        case atStart => exact ⟨0, by omega, rfl, by rw [List.drop_zero]; exact H8.out.2.1, Fr.refl _ _⟩
        case round =>
          obtain ⟨i, hi, rfl, hT, hF⟩ := hrel
          have HR1 := Lib.hid (And.intro hT hF)
          clear hT hF
          obtain ⟨wo, rfl⟩ : ∃ x : World, x = wr := ⟨_, rfl⟩
          by_cases hlt : i < l
          · obtain ⟨gm, rfl⟩ : ∃ gm, gk = gm + 1 := ⟨gk - 1, by omega⟩
            have hlt' : i < L.length := by rw [HLL.out]; exact hlt
            obtain ⟨g, rfl, hg1, hg2, hg3⟩ := HR.out (by omega)
            have hd := tdel_first HOK.out hlt'
            have hq : L[i]? = some (L[i]'hlt') := List.getElem?_eq_getElem hlt'
            have hids := HOK.out.ids _ (List.getElem_mem hlt')
            obtain ⟨jd, hjd⟩ : ∃ x, (L[i]'hlt').1 = x := ⟨_, rfl⟩
            rw [hjd] at hd hids
            have hc2 := hg3 i (.int .i64 jd) (by rw [List.getElem?_map, hq]; exact congrArg (fun x => some (Value.int .i64 x)) hjd)
            have KW : Hid (∀ w', Fr S' wo w' → w'.cell? ⟨w2.heap.size, 0, none⟩ = some (.pointer (some ⟨T, 0, none⟩)) ∧ w'.cell? ⟨g, i, none⟩ = some (.int .i64 jd)) := fun w' hf =>
              ⟨(H8.out.2.2.1.fr (HR1.out.2.trans hf) (fun h => (HSS.out.1 _ h).2.1 rfl)).get 0 rfl, ((HR1.out.2.trans hf).cell (p := ⟨g, i, none⟩) hg2 (fun h => by have := HSS.out.2 _ h; simp only at this; omega)).trans hc2⟩
            have D1 : Hid (∀ W, Tb W T S' (n + 1) (L.drop i) → Calls Tryd.prog 15 #[.pointer (some ⟨T, 0, none⟩), .int .i64 jd] W fun e w' => e = .returned (.int .i64 0) ∧ Tb w' T S' (n + 1) (L.drop (i + 1)) ∧ Fr S' W w') := fun W h => by
              have := tb_drop T (n + 1) S' _ jd W h
              rw [show askE (L.drop i) jd true = 0 from askE_some (tok_drop HOK.out i) hd.2.1 true, hd.1] at this
              exact this
            have D2 : Hid (∀ W, Tb W T S' (n + 1) (L.drop (i + 1)) → Calls Tryd.prog 15 #[.pointer (some ⟨T, 0, none⟩), .int .i64 jd] W fun e w' => e = .returned (.int .i64 81) ∧ Tb w' T S' (n + 1) (L.drop (i + 1)) ∧ Fr S' W w') := fun W h => by
              have := tb_drop T (n + 1) S' _ jd W h
              rw [askE_gone hids.1 hids.2 hd.2.2, tdel_none hd.2.2] at this
              exact this
            have p0 : (0 : Int) ≤ (i : Int) := by omega
            have p1 : (i : Int) < (l : Int) := by omega
            have e5 : wrap64 ((i : Int) + 1) = ((i + 1 : Nat) : Int) := by unfold wrap64; omega
            clear hd hq hids hc2 hjd hlt'
            go_wp2_with fail
            refine wp_region_noPanic ?_
            refine wp_region_held_drew (S := fun w' => w'.cell? ⟨w2.heap.size, 0, none⟩ = some (.pointer (some ⟨T, 0, none⟩)) ∧ w'.cell? ⟨g, i, none⟩ = some (.int .i64 jd)) (by kernel_rfl) (KW.out _ ((Fr.refl S' wo).drew)) (fun hH => ?_)
            first | (refine wpAnyH_take (i := 0) (v := undef) rfl ?_ ?_ ?_ (fun _ _ _ h => h) ?_ ?_ ?_; kernel_rfl; kernel_rfl; kernel_rfl; exact Or.inr ⟨by rfl, rfl⟩; exact hH) | (refine wpAnyH_take (i := 0) (v := ?_) rfl ?_ ?_ ?_ (fun _ _ _ h => h) ?_ ?_ ?_; rotate_left; kernel_rfl; kernel_rfl; kernel_rfl; (focus (refine Or.inl ⟨by rfl, ?_⟩; intro w' hSw; (try dsimp only at hSw); go_simp)); exact hH) | (refine wpAnyH_take (i := 0) (v := ?_) rfl ?_ ?_ ?_ (fun _ _ _ h => h) ?_ ?_ ?_; rotate_left; kernel_rfl; kernel_rfl; kernel_rfl; (focus (refine Or.inl ⟨by rfl, ?_⟩; intro w' hSw; (try dsimp only at hSw); go_simp; with_reducible rfl)); exact hH)
            try simp only [Act.put, List.getElem_toArray, List.getElem_cons_succ, List.getElem_cons_zero, List.setIfInBounds_toArray, List.set_cons_zero, List.set_cons_succ]
            first | (refine wpAnyH_take (i := 1) (v := undef) rfl ?_ ?_ ?_ (fun _ _ _ h => h) ?_ ?_ ?_; kernel_rfl; kernel_rfl; kernel_rfl; exact Or.inr ⟨by rfl, rfl⟩; exact hH) | (refine wpAnyH_take (i := 1) (v := ?_) rfl ?_ ?_ ?_ (fun _ _ _ h => h) ?_ ?_ ?_; rotate_left; kernel_rfl; kernel_rfl; kernel_rfl; (focus (refine Or.inl ⟨by rfl, ?_⟩; intro w' hSw; (try dsimp only at hSw); go_simp)); exact hH) | (refine wpAnyH_take (i := 1) (v := ?_) rfl ?_ ?_ ?_ (fun _ _ _ h => h) ?_ ?_ ?_; rotate_left; kernel_rfl; kernel_rfl; kernel_rfl; (focus (refine Or.inl ⟨by rfl, ?_⟩; intro w' hSw; (try dsimp only at hSw); go_simp; with_reducible rfl)); exact hH)
            try simp only [Act.put, List.getElem_toArray, List.getElem_cons_succ, List.getElem_cons_zero, List.setIfInBounds_toArray, List.set_cons_zero, List.set_cons_succ]
            first | (refine wpAnyH_take (i := 2) (v := undef) rfl ?_ ?_ ?_ (fun _ _ _ h => h) ?_ ?_ ?_; kernel_rfl; kernel_rfl; kernel_rfl; exact Or.inr ⟨by rfl, rfl⟩; exact hH) | (refine wpAnyH_take (i := 2) (v := ?_) rfl ?_ ?_ ?_ (fun _ _ _ h => h) ?_ ?_ ?_; rotate_left; kernel_rfl; kernel_rfl; kernel_rfl; (focus (refine Or.inl ⟨by rfl, ?_⟩; intro w' hSw; (try dsimp only at hSw); go_simp)); exact hH) | (refine wpAnyH_take (i := 2) (v := ?_) rfl ?_ ?_ ?_ (fun _ _ _ h => h) ?_ ?_ ?_; rotate_left; kernel_rfl; kernel_rfl; kernel_rfl; (focus (refine Or.inl ⟨by rfl, ?_⟩; intro w' hSw; (try dsimp only at hSw); go_simp; with_reducible rfl)); exact hH)
            try simp only [Act.put, List.getElem_toArray, List.getElem_cons_succ, List.getElem_cons_zero, List.setIfInBounds_toArray, List.set_cons_zero, List.set_cons_succ]
            first | (refine wpAnyH_take (i := 3) (v := undef) rfl ?_ ?_ ?_ (fun _ _ _ h => h) ?_ ?_ ?_; kernel_rfl; kernel_rfl; kernel_rfl; exact Or.inr ⟨by rfl, rfl⟩; exact hH) | (refine wpAnyH_take (i := 3) (v := ?_) rfl ?_ ?_ ?_ (fun _ _ _ h => h) ?_ ?_ ?_; rotate_left; kernel_rfl; kernel_rfl; kernel_rfl; (focus (refine Or.inl ⟨by rfl, ?_⟩; intro w' hSw; (try dsimp only at hSw); go_simp)); exact hH) | (refine wpAnyH_take (i := 3) (v := ?_) rfl ?_ ?_ ?_ (fun _ _ _ h => h) ?_ ?_ ?_; rotate_left; kernel_rfl; kernel_rfl; kernel_rfl; (focus (refine Or.inl ⟨by rfl, ?_⟩; intro w' hSw; (try dsimp only at hSw); go_simp; with_reducible rfl)); exact hH)
            try simp only [Act.put, List.getElem_toArray, List.getElem_cons_succ, List.getElem_cons_zero, List.setIfInBounds_toArray, List.set_cons_zero, List.set_cons_succ]
            first | (refine wpAnyH_take (i := 4) (v := undef) rfl ?_ ?_ ?_ (fun _ _ _ h => h) ?_ ?_ ?_; kernel_rfl; kernel_rfl; kernel_rfl; exact Or.inr ⟨by rfl, rfl⟩; exact hH) | (refine wpAnyH_take (i := 4) (v := ?_) rfl ?_ ?_ ?_ (fun _ _ _ h => h) ?_ ?_ ?_; rotate_left; kernel_rfl; kernel_rfl; kernel_rfl; (focus (refine Or.inl ⟨by rfl, ?_⟩; intro w' hSw; (try dsimp only at hSw); go_simp)); exact hH) | (refine wpAnyH_take (i := 4) (v := ?_) rfl ?_ ?_ ?_ (fun _ _ _ h => h) ?_ ?_ ?_; rotate_left; kernel_rfl; kernel_rfl; kernel_rfl; (focus (refine Or.inl ⟨by rfl, ?_⟩; intro w' hSw; (try dsimp only at hSw); go_simp; with_reducible rfl)); exact hH)
            try simp only [Act.put, List.getElem_toArray, List.getElem_cons_succ, List.getElem_cons_zero, List.setIfInBounds_toArray, List.set_cons_zero, List.set_cons_succ]
            refine wpAnyH_ready (rs := [5]) (by kernel_rfl) (by simp) ?_
            refine AllReadyH.cons rfl (fun K hK => ?_) AllReadyH.nil
            go_simp
            with_reducible refine (D1.out _ (HR1.out.1.next (below_of_drew (Below.refl _ _)))).mono ?_
            rintro e w21 ⟨rfl, hT1, hF1⟩
            have hH21 := KW.out _ ((Fr.refl S' wo).drew.trans hF1)
            have HT1 := Lib.hid (And.intro hT1 ((Fr.refl S' wo).drew.trans hF1))
            clear hT1 hF1
            try go_wp2_with fail
            refine hK.out _ _ hH21 (fun _ => ?_)
            clear hK K hH
            have hH := hH21
            clear hH21
            try simp only [Act.put, List.getElem_toArray, List.getElem_cons_succ, List.getElem_cons_zero, List.setIfInBounds_toArray, List.set_cons_zero, List.set_cons_succ]
            first | (refine wpAnyH_take (i := 6) (v := undef) rfl ?_ ?_ ?_ (fun _ _ _ h => h) ?_ ?_ ?_; kernel_rfl; kernel_rfl; kernel_rfl; exact Or.inr ⟨by rfl, rfl⟩; exact hH) | (refine wpAnyH_take (i := 6) (v := ?_) rfl ?_ ?_ ?_ (fun _ _ _ h => h) ?_ ?_ ?_; rotate_left; kernel_rfl; kernel_rfl; kernel_rfl; (focus (refine Or.inl ⟨by rfl, ?_⟩; intro w' hSw; (try dsimp only at hSw); go_simp)); exact hH) | (refine wpAnyH_take (i := 6) (v := ?_) rfl ?_ ?_ ?_ (fun _ _ _ h => h) ?_ ?_ ?_; rotate_left; kernel_rfl; kernel_rfl; kernel_rfl; (focus (refine Or.inl ⟨by rfl, ?_⟩; intro w' hSw; (try dsimp only at hSw); go_simp; with_reducible rfl)); exact hH)
            try simp only [Act.put, List.getElem_toArray, List.getElem_cons_succ, List.getElem_cons_zero, List.setIfInBounds_toArray, List.set_cons_zero, List.set_cons_succ]
            first | (refine wpAnyH_take (i := 7) (v := undef) rfl ?_ ?_ ?_ (fun _ _ _ h => h) ?_ ?_ ?_; kernel_rfl; kernel_rfl; kernel_rfl; exact Or.inr ⟨by rfl, rfl⟩; exact hH) | (refine wpAnyH_take (i := 7) (v := ?_) rfl ?_ ?_ ?_ (fun _ _ _ h => h) ?_ ?_ ?_; rotate_left; kernel_rfl; kernel_rfl; kernel_rfl; (focus (refine Or.inl ⟨by rfl, ?_⟩; intro w' hSw; (try dsimp only at hSw); go_simp)); exact hH) | (refine wpAnyH_take (i := 7) (v := ?_) rfl ?_ ?_ ?_ (fun _ _ _ h => h) ?_ ?_ ?_; rotate_left; kernel_rfl; kernel_rfl; kernel_rfl; (focus (refine Or.inl ⟨by rfl, ?_⟩; intro w' hSw; (try dsimp only at hSw); go_simp; with_reducible rfl)); exact hH)
            try simp only [Act.put, List.getElem_toArray, List.getElem_cons_succ, List.getElem_cons_zero, List.setIfInBounds_toArray, List.set_cons_zero, List.set_cons_succ]
            first | (refine wpAnyH_take (i := 8) (v := undef) rfl ?_ ?_ ?_ (fun _ _ _ h => h) ?_ ?_ ?_; kernel_rfl; kernel_rfl; kernel_rfl; exact Or.inr ⟨by rfl, rfl⟩; exact hH) | (refine wpAnyH_take (i := 8) (v := ?_) rfl ?_ ?_ ?_ (fun _ _ _ h => h) ?_ ?_ ?_; rotate_left; kernel_rfl; kernel_rfl; kernel_rfl; (focus (refine Or.inl ⟨by rfl, ?_⟩; intro w' hSw; (try dsimp only at hSw); go_simp)); exact hH) | (refine wpAnyH_take (i := 8) (v := ?_) rfl ?_ ?_ ?_ (fun _ _ _ h => h) ?_ ?_ ?_; rotate_left; kernel_rfl; kernel_rfl; kernel_rfl; (focus (refine Or.inl ⟨by rfl, ?_⟩; intro w' hSw; (try dsimp only at hSw); go_simp; with_reducible rfl)); exact hH)
            try simp only [Act.put, List.getElem_toArray, List.getElem_cons_succ, List.getElem_cons_zero, List.setIfInBounds_toArray, List.set_cons_zero, List.set_cons_succ]
            first | (refine wpAnyH_take (i := 9) (v := undef) rfl ?_ ?_ ?_ (fun _ _ _ h => h) ?_ ?_ ?_; kernel_rfl; kernel_rfl; kernel_rfl; exact Or.inr ⟨by rfl, rfl⟩; exact hH) | (refine wpAnyH_take (i := 9) (v := ?_) rfl ?_ ?_ ?_ (fun _ _ _ h => h) ?_ ?_ ?_; rotate_left; kernel_rfl; kernel_rfl; kernel_rfl; (focus (refine Or.inl ⟨by rfl, ?_⟩; intro w' hSw; (try dsimp only at hSw); go_simp)); exact hH) | (refine wpAnyH_take (i := 9) (v := ?_) rfl ?_ ?_ ?_ (fun _ _ _ h => h) ?_ ?_ ?_; rotate_left; kernel_rfl; kernel_rfl; kernel_rfl; (focus (refine Or.inl ⟨by rfl, ?_⟩; intro w' hSw; (try dsimp only at hSw); go_simp; with_reducible rfl)); exact hH)
            try simp only [Act.put, List.getElem_toArray, List.getElem_cons_succ, List.getElem_cons_zero, List.setIfInBounds_toArray, List.set_cons_zero, List.set_cons_succ]
            first | (refine wpAnyH_take (i := 10) (v := undef) rfl ?_ ?_ ?_ (fun _ _ _ h => h) ?_ ?_ ?_; kernel_rfl; kernel_rfl; kernel_rfl; exact Or.inr ⟨by rfl, rfl⟩; exact hH) | (refine wpAnyH_take (i := 10) (v := ?_) rfl ?_ ?_ ?_ (fun _ _ _ h => h) ?_ ?_ ?_; rotate_left; kernel_rfl; kernel_rfl; kernel_rfl; (focus (refine Or.inl ⟨by rfl, ?_⟩; intro w' hSw; (try dsimp only at hSw); go_simp)); exact hH) | (refine wpAnyH_take (i := 10) (v := ?_) rfl ?_ ?_ ?_ (fun _ _ _ h => h) ?_ ?_ ?_; rotate_left; kernel_rfl; kernel_rfl; kernel_rfl; (focus (refine Or.inl ⟨by rfl, ?_⟩; intro w' hSw; (try dsimp only at hSw); go_simp; with_reducible rfl)); exact hH)
            try simp only [Act.put, List.getElem_toArray, List.getElem_cons_succ, List.getElem_cons_zero, List.setIfInBounds_toArray, List.set_cons_zero, List.set_cons_succ]
            first | (refine wpAnyH_take (i := 11) (v := undef) rfl ?_ ?_ ?_ (fun _ _ _ h => h) ?_ ?_ ?_; kernel_rfl; kernel_rfl; kernel_rfl; exact Or.inr ⟨by rfl, rfl⟩; exact hH) | (refine wpAnyH_take (i := 11) (v := ?_) rfl ?_ ?_ ?_ (fun _ _ _ h => h) ?_ ?_ ?_; rotate_left; kernel_rfl; kernel_rfl; kernel_rfl; (focus (refine Or.inl ⟨by rfl, ?_⟩; intro w' hSw; (try dsimp only at hSw); go_simp)); exact hH) | (refine wpAnyH_take (i := 11) (v := ?_) rfl ?_ ?_ ?_ (fun _ _ _ h => h) ?_ ?_ ?_; rotate_left; kernel_rfl; kernel_rfl; kernel_rfl; (focus (refine Or.inl ⟨by rfl, ?_⟩; intro w' hSw; (try dsimp only at hSw); go_simp; with_reducible rfl)); exact hH)
            try simp only [Act.put, List.getElem_toArray, List.getElem_cons_succ, List.getElem_cons_zero, List.setIfInBounds_toArray, List.set_cons_zero, List.set_cons_succ]
            first | (refine wpAnyH_take (i := 12) (v := undef) rfl ?_ ?_ ?_ (fun _ _ _ h => h) ?_ ?_ ?_; kernel_rfl; kernel_rfl; kernel_rfl; exact Or.inr ⟨by rfl, rfl⟩; exact hH) | (refine wpAnyH_take (i := 12) (v := ?_) rfl ?_ ?_ ?_ (fun _ _ _ h => h) ?_ ?_ ?_; rotate_left; kernel_rfl; kernel_rfl; kernel_rfl; (focus (refine Or.inl ⟨by rfl, ?_⟩; intro w' hSw; (try dsimp only at hSw); go_simp)); exact hH) | (refine wpAnyH_take (i := 12) (v := ?_) rfl ?_ ?_ ?_ (fun _ _ _ h => h) ?_ ?_ ?_; rotate_left; kernel_rfl; kernel_rfl; kernel_rfl; (focus (refine Or.inl ⟨by rfl, ?_⟩; intro w' hSw; (try dsimp only at hSw); go_simp; with_reducible rfl)); exact hH)
            try simp only [Act.put, List.getElem_toArray, List.getElem_cons_succ, List.getElem_cons_zero, List.setIfInBounds_toArray, List.set_cons_zero, List.set_cons_succ]
            refine wpAnyH_ready (rs := [13]) (by kernel_rfl) (by simp) ?_
            refine AllReadyH.cons rfl (fun K hK => ?_) AllReadyH.nil
            go_simp
            with_reducible refine (D2.out _ HT1.out.1).mono ?_
            rintro e w22 ⟨rfl, hT2, hF2⟩
            have hH22 := KW.out _ (HT1.out.2.trans hF2)
            have HT2 := Lib.hid (And.intro hT2 (HT1.out.2.trans hF2))
            clear hT2 hF2
            try go_wp2_with fail
            refine hK.out _ _ hH22 (fun _ => ?_)
            clear hK K hH
            have hH := hH22
            clear hH22
            try simp only [Act.put, List.getElem_toArray, List.getElem_cons_succ, List.getElem_cons_zero, List.setIfInBounds_toArray, List.set_cons_zero, List.set_cons_succ]
            first | (refine wpAnyH_take (i := 14) (v := undef) rfl ?_ ?_ ?_ (fun _ _ _ h => h) ?_ ?_ ?_; kernel_rfl; kernel_rfl; kernel_rfl; exact Or.inr ⟨by rfl, rfl⟩; exact hH) | (refine wpAnyH_take (i := 14) (v := ?_) rfl ?_ ?_ ?_ (fun _ _ _ h => h) ?_ ?_ ?_; rotate_left; kernel_rfl; kernel_rfl; kernel_rfl; (focus (refine Or.inl ⟨by rfl, ?_⟩; intro w' hSw; (try dsimp only at hSw); go_simp)); exact hH) | (refine wpAnyH_take (i := 14) (v := ?_) rfl ?_ ?_ ?_ (fun _ _ _ h => h) ?_ ?_ ?_; rotate_left; kernel_rfl; kernel_rfl; kernel_rfl; (focus (refine Or.inl ⟨by rfl, ?_⟩; intro w' hSw; (try dsimp only at hSw); go_simp; with_reducible rfl)); exact hH)
            try simp only [Act.put, List.getElem_toArray, List.getElem_cons_succ, List.getElem_cons_zero, List.setIfInBounds_toArray, List.set_cons_zero, List.set_cons_succ]
            first | (refine wpAnyH_take (i := 15) (v := undef) rfl ?_ ?_ ?_ (fun _ _ _ h => h) ?_ ?_ ?_; kernel_rfl; kernel_rfl; kernel_rfl; exact Or.inr ⟨by rfl, rfl⟩; exact hH) | (refine wpAnyH_take (i := 15) (v := ?_) rfl ?_ ?_ ?_ (fun _ _ _ h => h) ?_ ?_ ?_; rotate_left; kernel_rfl; kernel_rfl; kernel_rfl; (focus (refine Or.inl ⟨by rfl, ?_⟩; intro w' hSw; (try dsimp only at hSw); go_simp)); exact hH) | (refine wpAnyH_take (i := 15) (v := ?_) rfl ?_ ?_ ?_ (fun _ _ _ h => h) ?_ ?_ ?_; rotate_left; kernel_rfl; kernel_rfl; kernel_rfl; (focus (refine Or.inl ⟨by rfl, ?_⟩; intro w' hSw; (try dsimp only at hSw); go_simp; with_reducible rfl)); exact hH)
            try simp only [Act.put, List.getElem_toArray, List.getElem_cons_succ, List.getElem_cons_zero, List.setIfInBounds_toArray, List.set_cons_zero, List.set_cons_succ]
            refine wpAnyH_done (by kernel_rfl) ?_ _
            refine NoPanic.normal ?_
            clear hH
            go_wp2
            go_roundg gm
            case rel => exact ⟨i + 1, by omega, by go_num, HT2.out.1, HR1.out.2.trans HT2.out.2⟩
            case measure => omega
          · obtain rfl : gk = 0 := by omega
            obtain rfl : i = l := by omega
            have hF := HR1.out.2
            have HE := Lib.hid (And.intro HR1.out.1 (And.intro (H8.out.2.2.2.1.fr hF (fun h => by have := (HSS.out.1 _ h).1; have := HZ.out; omega)) (And.intro (H8.out.1.fr hF (fun k hk h => (HSS.out.1 _ h).2.2 _ hk rfl) (fun k hk => H6.out.1.big k hk)) (And.intro (H8.out.2.2.2.2.1.trans (hF.below (by have := H8.out.2.2.2.2.2.1; omega) (fun k hk h => by have := (HSS.out.1 _ h).1; have := HZ.out; omega))) (by have := H8.out.2.2.2.2.2.1; omega : w.heap.size + 1 < w8.heap.size)))))
            have cT := (H8.out.2.2.1.fr hF (fun h => (HSS.out.1 _ h).2.1 rfl)).get 0 rfl
            have cR := HE.out.2.1.get 0 rfl
            have hD8 := H8.out.2.2.2.2.2.2
            have HDD := Lib.hid ((hF.block _ (Array.getElem?_eq_some_iff.1 hD8).1 (fun h => by have := HS0.out _ h; omega)).trans hD8)
            have NX := Lib.hid (tb_next T (n + 1) S' _ (-5) wo HE.out.1 (by decide))
            have LT := Lib.hid (tb_len T (n + 1) S' _ wo HE.out.1)
            rw [show L.drop i = [] by rw [← HLL.out]; exact List.drop_length] at NX LT
            have LC := Lib.hid (tb_len C _ SC L wo HE.out.2.2.1)
            rw [HLL.out] at LC
            clear hF hD8 hlt
            go_wp2_with fail
            with_reducible refine NX.out.mono ?_
            rintro e wx ⟨rfl, rfl⟩
            go_wp2_with fail
            with_reducible refine LT.out.mono ?_
            rintro e wx ⟨rfl, rfl⟩
            go_wp2_with fail
            with_reducible refine LC.out.mono ?_
            rintro e wx ⟨rfl, rfl⟩
            have fR := HE.out.2.1.frozen 0
            go_wp2
            refine marks_ret (B := w.heap.size) [W0.heap.size] rfl (by intro D hd; simp only [List.mem_singleton] at hd; subst hd; exact ⟨by omega, by rw [Below.heap_setCell _ _ _ _ (show W0.heap.size ≠ w.heap.size + 1 by omega)]; exact HDD.out⟩) (by simp) ?_
            intro w' hs
            have HBF := HE.out.2.2.2.1.setCell (p := ⟨w.heap.size + 1, 0, none⟩) (show w.heap.size ≤ w.heap.size + 1 by omega) (.bool true)
            have hr := Blk.get ((HE.out.2.1.put 0 (.bool true)).stays hs) 0 rfl
            refine ⟨.bool true, by simp [results, Tryd.results8, go_sem, hr]; try rfl, rfl, below_stays HBF hs (Nat.le_refl _)⟩

end Go.Proofs.YtddehgcdflfonaaDoor
