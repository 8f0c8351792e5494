/-
  The law TableIds, walked.
-/
import Derived.Test.YtddehgcdflfonaaDoorProg
import Derived.Test.YtddehgcdflfonaaDoorTabH
import Derived.Test.YtddehgcdflfonaaDoorTabCols
namespace Go.Proofs.YtddehgcdflfonaaDoor
set_option linter.unusedVariables false
set_option linter.unusedSimpArgs false
set_option maxRecDepth 100000
open Go.RowKit Go.Shelf

attribute [local go_sem] Oper.semAt_some

/-- How a row of the walk's own is told. -/
theorem row_form {w : World} {B n : Nat} {e : TypeId} {v : Value} {xs : List Value} (h : w.ownsRow B e 1 v n xs) : ∃ A c, v = .slice A n c ∧ (0 < n → ∃ g, A = some ⟨g, 0, none⟩ ∧ B ≤ g ∧ g < w.heap.size ∧ ∀ j u, xs[j]? = some u → w.cell? ⟨g, j, none⟩ = some u) := by
  by_cases hn : 0 < n
  · obtain ⟨b, c, rfl, hb⟩ := own_form h hn
    refine ⟨_, c, rfl, fun _ => ⟨b, rfl, hb, (h.lt b rfl).2, fun j u e => ?_⟩⟩
    have := h.cells (g := b) rfl j u e
    have e2 : (⟨b, 0, none⟩ : Addr).add j = ⟨b, j, none⟩ := by
      unfold Addr.add
      split
      · rename_i h0
        rw [h0]
      · simp only [Nat.zero_add]
    rw [e2] at this
    exact this
  · obtain rfl : n = 0 := by omega
    rcases h.2 with ⟨rfl, _⟩ | ⟨g, c, cur, rfl, _⟩
    · exact ⟨none, 0, rfl, fun h => absurd h hn⟩
    · exact ⟨_, c, rfl, fun h => absurd h hn⟩

set_option maxHeartbeats 16000000 in
theorem tableIds_walk (w : World) (hB : BrAt w) (A : Option Addr) (n c : Nat) (K : Nat → Int) (fK : ∀ i, i < n → (Lit.int .u8 (K i)).wf = true) (I : Nat → Int) (fI : ∀ i, i < n → (Lit.int .i64 (I i)).wf = true) (V : Nat → Int) (fV : ∀ i, i < n → (Lit.int .u64 (V i)).wf = true) (Q : Nat → Int) (fQ : ∀ i, i < n → (Lit.int .i64 (Q i)).wf = true) (hl : n ≤ c) (hm : c ≤ maxLen)
    (hA : 0 < n → ∃ b off, A = some ⟨b, off, none⟩ ∧ b < w.heap.size) (hK : ∀ b off, A = some ⟨b, off, none⟩ → ∀ i, i < n → w.cell? ⟨b, off + (i * 4 + 0), none⟩ = some (.int .u8 (K i))) (hI : ∀ b off, A = some ⟨b, off, none⟩ → ∀ i, i < n → w.cell? ⟨b, off + (i * 4 + 1), none⟩ = some (.int .i64 (I i)))
    (hV : ∀ b off, A = some ⟨b, off, none⟩ → ∀ i, i < n → w.cell? ⟨b, off + (i * 4 + 2), none⟩ = some (.int .u64 (V i))) (hQ : ∀ b off, A = some ⟨b, off, none⟩ → ∀ i, i < n → w.cell? ⟨b, off + (i * 4 + 3), none⟩ = some (.int .i64 (Q i)))
    (sm : Int) (fsm : (Lit.int .i64 sm).wf = true) (ask : Int) (fask : (Lit.int .i64 ask).wf = true) :
    Calls Tryd.prog 4 #[.slice A n c, .int .i64 sm, .int .i64 ask] w fun e w' => e = .returned (.bool true) ∧ Below w.heap.size w w' := by
  have HA := Lib.hid (tacts_of hA hK hI hV hQ)
  have HM : Hid (TMay (colF K n) (colF I n) (colF V n) (colF Q n)) := ⟨colF_byte fK, colF_int fI, colF_word (fun i hi => word_of_wf (fV i hi)), colF_int fQ⟩
  have HB := Lib.hid hB
  have HSM := Lib.hid (int_of_wf fsm)
  have HAS := Lib.hid (int_of_wf fask)
  have HLC := Lib.hid (And.intro hl hm)
  clear hA hK hI hV hQ fK fI fV fQ hB hl hm fsm fask
  generalize colF K n = K at HA HM
  generalize colF I n = I at HA HM
  generalize colF V n = V at HA HM
  generalize colF Q n = Q at HA HM
  obtain ⟨w0, hw0⟩ : ∃ x, w.alloc (.cells #[.int .i64 sm] 3) = x := ⟨_, rfl⟩
  have hz0 : w0.heap.size = w.heap.size + 1 := by rw [← hw0]; simp
  have B0 : Below w.heap.size w w0 := by rw [← hw0]; exact (Below.refl w.heap.size w).alloc (Nat.le_refl _) _
  have bS : Blk w0 w.heap.size 3 #[.int .i64 sm] := by rw [← hw0]; exact Blk.new w _ _
  have HW0 := Lib.hid (And.intro hz0 (And.intro B0 bS))
  have HA0 := Lib.hid (HA.out.next B0 (fun b off hn e => by obtain ⟨b', off', e', h⟩ := HA.out.addr hn; rw [e] at e'; cases e'; exact h))
  clear hz0 B0 bS
  have HEQ := Lib.hid hw0
  clear hw0
  by_cases hn : 200 < n
  · refine calls_of_wp_marks Tryd.func4 rfl ?_
    simp only [Tryd.ntmps4, List.size_toArray, List.length_cons, List.length_nil, Nat.reduceAdd, Nat.reduceSub, Array.replicate_succ, Array.replicate_zero, List.push_toArray, List.append_toArray, List.nil_append, List.cons_append]
    go_wp2_with fail
    rw [HEQ.out]
    with_reducible refine (tab_awake w0 (HB.out.next HW0.out.2.1)).mono ?_
    rintro e w1 ⟨rfl, hb1⟩
    have HB1 := Lib.hid (And.intro ((HB.out.next HW0.out.2.1).next hb1) (HW0.out.2.1.trans (hb1.mono (by have := HW0.out.1; omega))))
    clear hb1
    go_wp2_with fail
    with_reducible refine (acted_many A n c w1 HB1.out.1 hn HLC.out.2 HLC.out.1).mono ?_
    rintro e w2 ⟨rfl, hb2⟩
    have H2 := Lib.hid (HB1.out.2.trans (hb2.mono HB1.out.2.size))
    clear hb2
    go_wp2
    refine marks_ret (B := w.heap.size) [] rfl (by intro D hd; cases hd) (by simp) ?_
    intro w' hs
    exact ⟨_, results_tmp rfl _ _ _, by simp, below_stays H2.out hs (Nat.le_refl _)⟩
  have HN := Lib.hid (show n ≤ 200 by omega)
  clear hn
  refine calls_of_wp_marks Tryd.func4 rfl ?_
  simp only [Tryd.ntmps4, List.size_toArray, List.length_cons, List.length_nil, Nat.reduceAdd, Nat.reduceSub, Array.replicate_succ, Array.replicate_zero, List.push_toArray, List.append_toArray, List.nil_append, List.cons_append]
  go_wp2_with fail
  rw [HEQ.out]
  with_reducible refine (tab_awake w0 (HB.out.next HW0.out.2.1)).mono ?_
  rintro e w1 ⟨rfl, hb1⟩
  have HB1 := Lib.hid (And.intro ((HB.out.next HW0.out.2.1).next hb1) (And.intro (HW0.out.2.1.trans (hb1.mono (by have := HW0.out.1; omega))) (And.intro (HW0.out.2.2.next hb1) (HA0.out.next hb1 (fun b off hn e => by obtain ⟨b', off', e', h⟩ := HA0.out.addr hn; rw [e] at e'; cases e'; exact h)))))
  clear hb1
  go_wp2_with fail
  with_reducible refine (tn_acted A n c K I V Q w1 HB1.out.1 HB1.out.2.2.2 HM.out HN.out HLC.out.1 HLC.out.2).mono ?_
  rintro e w2 ⟨T, rfl, hT⟩
  have HT := Lib.hid hT
  clear hT
  obtain ⟨L, hL⟩ : ∃ L, actRow K I V n = L := ⟨_, rfl⟩
  rw [hL] at HT
  clear hL
  go_wp2_with fail
  obtain ⟨S, hS⟩ := HT.out
  with_reducible refine (tb_ids T n S L w2 hS.1).mono ?_
  rintro e w3 ⟨v, rfl, hr, hb3⟩
  obtain ⟨A3, c3, rfl, hcells⟩ := row_form hr
  have HR := Lib.hid hcells
  have HT3 := Lib.hid (HT.out.next hb3)
  have HS3 := Lib.hid (hS.1.next hb3)
  have HOK := Lib.hid HT.out.ok
  have HB3 := Lib.hid (And.intro (HB1.out.2.1.trans (HT3.out.below.mono HB1.out.2.1.size)) (And.intro (show Blk w3 w.heap.size 3 #[.int .i64 sm] from HB1.out.2.2.1.below HT3.out.below HB1.out.2.2.1.lt) hb3.size))
  have hfew := HOK.out.few
  clear hr hb3 hcells HT HB1 hS
  obtain ⟨l, hll⟩ : ∃ l, L.length = l := ⟨_, rfl⟩
  rw [hll] at hfew HR ⊢
  have HLL := Lib.hid hll
  clear hll
  go_wp2
  go_loopg [9, 10] l (fun gk dv ix wr => ∃ i : Nat, i + gk = l ∧ ix = .int .i64 i ∧ dv = .int .i64 (if i = 0 then 0 else (L[i - 1]?.getD (0, 0)).1) ∧ Below w3.heap.size w3 wr)
  case atStart => exact ⟨0, by omega, rfl, rfl, Below.refl _ _⟩
  case round =>
    obtain ⟨i, hi, rfl, rfl, hb⟩ := hrel
    have HBR := Lib.hid hb
    clear hb
    obtain ⟨wo, rfl⟩ : ∃ x : World, x = wr := ⟨_, rfl⟩
    have HST := Lib.hid (next_step HOK.out i (by rw [HLL.out]; omega) _ rfl)
    have h64 : -9223372036854775808 ≤ (if i = 0 then (0 : Int) else (L[i - 1]?.getD (0, 0)).1) := by
      split
      · omega
      · obtain ⟨i', v', q1, q2, q3⟩ := row_at HOK.out.rises (k := i - 1) (by rw [HLL.out]; omega)
        have := (HOK.out.ids _ q2).1
        rw [q1]
        show _ ≤ i'
        simp only at this
        omega
    have HTW := Lib.hid (HS3.out.next HBR.out)
    have hlow : (if i = 0 then (0 : Int) else (L[i - 1]?.getD (0, 0)).1) = 0 ∨ i ≠ 0 := by by_cases c : i = 0 <;> simp [c]
    by_cases hlt : i < l
    · obtain ⟨gm, rfl⟩ : ∃ gm, gk = gm + 1 := ⟨gk - 1, by omega⟩
      obtain ⟨id, v, q1, q2, q3⟩ := row_at HOK.out.rises (k := i) (by rw [HLL.out]; exact hlt)
      have hst := HST.out.1 (by rw [HLL.out]; exact hlt)
      rw [q1] at hst
      obtain ⟨g, rfl, hg1, hg2, hg3⟩ := HR.out (by omega)
      have hc := (HBR.out.cell (p := ⟨g, i, none⟩) hg2).trans (hg3 i (.int .i64 id) (by rw [List.getElem?_map, q1]; rfl))
      have hlast : (if i = 0 then (0 : Int) else (L[i - 1]?.getD (0, 0)).1) < id := by
        split
        · have := (HOK.out.ids _ q2).1; simp only at this; omega
        · obtain ⟨i', v', r1, r2, r3⟩ := row_at HOK.out.rises (k := i - 1) (by rw [HLL.out]; omega)
          rw [r1]
          have := rises_at HOK.out.rises (j := i - 1) (k := i) (by rw [HLL.out]; omega) (by rw [HLL.out]; omega) (by omega)
          rw [List.getElem?_eq_getElem (by rw [HLL.out]; omega)] at r1 q1
          have e1 := congrArg Prod.fst (Option.some.inj r1)
          have e2 := congrArg Prod.fst (Option.some.inj q1)
          simp only at e1 e2
          show i' < id
          omega
      obtain ⟨d, hd⟩ : ∃ x, (if i = 0 then (0 : Int) else (L[i - 1]?.getD (0, 0)).1) = x := ⟨_, rfl⟩
      rw [hd] at hst h64 hlast ⊢
      clear hd hlow
      have NX := Lib.hid (tb_next T n S L d wo HTW.out h64)
      rw [hst.1, hst.2] at NX
      have GT := Lib.hid (tb_get T n S L id wo HTW.out)
      rw [q3] at GT
      have HQ := Lib.hid (And.intro q1 hlt)
      have p0 : (0 : Int) ≤ (i : Int) := by omega
      have p1 : (i : Int) < (l : Int) := by omega
      have e5 : wrap64 ((i : Int) + 1) = ((i + 1 : Nat) : Int) := by unfold wrap64; omega
      have d1 : decide (id ≤ d) = false := decide_eq_false (by omega)
      clear q1 q2 q3 hst h64 hlast HST hlt
      go_wp2_with fail
      with_reducible refine (NX.out).mono ?_
      rintro e wx ⟨rfl, rfl⟩
      go_wp2_with fail
      with_reducible refine (GT.out).mono ?_
      rintro e w4 ⟨rfl, hb4⟩
      have HB4 := Lib.hid (below_next HBR.out hb4)
      have hc4 := (hb4.cell (p := ⟨g, i, none⟩) (Nat.lt_of_lt_of_le hg2 HBR.out.size)).trans hc
      clear hb4 hc
      go_wp2
      go_roundg gm
      case rel => exact ⟨i + 1, by omega, by go_num, by rw [if_neg (by omega), Nat.add_sub_cancel, HQ.out.1]; rfl, HB4.out⟩
      case measure => omega
    · obtain rfl : gk = 0 := by omega
      obtain rfl : i = l := by omega
      have hst := HST.out.2 HLL.out.symm
      obtain ⟨d, hd⟩ : ∃ x, (if i = 0 then (0 : Int) else (L[i - 1]?.getD (0, 0)).1) = x := ⟨_, rfl⟩
      rw [hd] at hst h64 ⊢
      clear hd hlow hlt hi HST
      have NX := Lib.hid (tb_next T n S L d wo HTW.out h64)
      rw [hst.1, hst.2] at NX
      clear hst h64
      go_wp2_with fail
      with_reducible refine (NX.out).mono ?_
      rintro e wx ⟨rfl, rfl⟩
      go_wp2_with fail
      with_reducible refine (tab_each _ rfl _).mono ?_
      rintro e w5 ⟨rfl, rfl⟩
      go_wp2_with fail
      have bM := (Blk.new wo 3 #[.int .i64 0]).alloc (.cells #[.pointer (some ⟨T, 0, none⟩)] 24)
      have bT := Blk.new (wo.alloc (.cells #[.int .i64 0] 3)) 24 #[.pointer (some ⟨T, 0, none⟩)]
      simp only [World.size_alloc] at bT
      have hBo : Below wo.heap.size wo ((wo.alloc (.cells #[.int .i64 0] 3)).alloc (.cells #[.pointer (some ⟨T, 0, none⟩)] 24)) := by go_grown
      have hsz : wo.heap.size + 2 ≤ ((wo.alloc (.cells #[.int .i64 0] 3)).alloc (.cells #[.pointer (some ⟨T, 0, none⟩)] 24)).heap.size := by simp
      obtain ⟨W0, hW0⟩ : ∃ x, (wo.alloc (.cells #[.int .i64 0] 3)).alloc (.cells #[.pointer (some ⟨T, 0, none⟩)] 24) = x := ⟨_, rfl⟩
      rw [hW0] at bM bT hBo hsz ⊢
      clear hW0
      have BW : Below w.heap.size w W0 := HB3.out.1.trans ((HBR.out.mono HB3.out.1.size).trans (hBo.mono (Nat.le_trans HB3.out.1.size HBR.out.size)))
      have bS : Blk W0 w.heap.size 3 #[.int .i64 sm] := (HB3.out.2.1.next HBR.out).next hBo
      have TW := HTW.out.next hBo
      have hws : w.heap.size < wo.heap.size := Nat.lt_of_lt_of_le HB3.out.2.1.lt HBR.out.size
      refine wp_range (gf := 30) (lb := #[.pointer (some ⟨wo.heap.size + 1, 0, none⟩)]) rfl (enters_of Tryd.func30 (by kernel_rfl) rfl) (each_yields T n (wo.heap.size + 1) S L) (fun _ _ => rfl)
        (fun k W => Tb W T S n L ∧ Blk W (wo.heap.size + 1) 24 #[.pointer (some ⟨T, 0, none⟩)] ∧ Blk W wo.heap.size 3 #[.int .i64 (k : Int)] ∧ Blk W w.heap.size 3 #[.int .i64 sm] ∧ Below w.heap.size w W ∧ W0.heap.size ≤ W.heap.size ∧ (k = 0 ∨ (k : Int) ≤ sm))
        (fun cd k W => cd = .exit 2 ∧ ∃ j : Nat, k = j + 1 ∧ Tb W T S n L ∧ Blk W (wo.heap.size + 1) 24 #[.pointer (some ⟨T, 0, none⟩)] ∧ Blk W wo.heap.size 3 #[.int .i64 (j : Int)] ∧ Blk W w.heap.size 3 #[.int .i64 sm] ∧ Below w.heap.size w W ∧ W0.heap.size ≤ W.heap.size ∧ (j = 0 ∨ (j : Int) ≤ sm) ∧ sm ≤ (j : Int)) ?hI ?hIx (fun k A h => ⟨h.1, h.2.1⟩) ?h0 ?hround ?hdone ?hstop
      case hI =>
        rintro k A C ⟨h1, h2, h3, h4, h5, h6, h7⟩ hs
        exact ⟨h1.stays hs, h2.stays hs, h3.stays hs, h4.stays hs, below_stays h5 hs (by omega), Nat.le_trans h6 hs.size, h7⟩
      case hIx =>
        rintro cd k A C ⟨rfl, j, rfl, h1, h2, h3, h4, h5, h6, h7, h8⟩ hs
        exact ⟨rfl, j, rfl, h1.stays hs, h2.stays hs, h3.stays hs, h4.stays hs, below_stays h5 hs (by omega), Nat.le_trans h6 hs.size, h7, h8⟩
      case h0 => exact ⟨TW, bT, bM, bS, BW, Nat.le_refl _, Or.inl rfl⟩
      case hround =>
        rintro k W hk ⟨h1, h2, h3, h4, h5, h6, h7⟩ hlt
        obtain ⟨i', x, q1, q2, q3⟩ := row_at HOK.out.rises hk
        rw [enc_at q1]
        gi_wp2
        refine ⟨Holds.refl hlt, fun W2 hs => ?_⟩
        have hlt2 := Nat.lt_of_lt_of_le hlt hs.size
        have HI := Lib.hid (And.intro (h1.stays hs) (And.intro (Blk.stays h2 hs) (And.intro (Blk.stays h3 hs) (And.intro (Blk.stays h4 hs) (And.intro (below_stays h5 hs (by omega)) (And.intro (Nat.le_trans h6 hs.size) h7))))))
        have cM := HI.out.2.2.1.get 0 rfl
        have fM := HI.out.2.2.1.frozen 0
        have cS := HI.out.2.2.2.1.get 0 rfl
        have HLT := Lib.hid hlt2
        have hkf : k < 100000 := by rw [HLL.out] at hk; omega
        clear h1 h2 h3 h4 h5 h6 h7 hs hlt hk q1 q2 q3 bM bT bS BW TW hBo hlt2
        by_cases hs : sm ≤ (k : Int)
        · have d1 : decide (sm ≤ (k : Int)) = true := decide_eq_true hs
          have HS := Lib.hid hs
          clear hs
          gi_wp2
          exact ⟨Holds.refl HLT.out, rfl, k, rfl, HI.out.1, HI.out.2.1, HI.out.2.2.1, HI.out.2.2.2.1, HI.out.2.2.2.2.1, HI.out.2.2.2.2.2.1, HI.out.2.2.2.2.2.2, HS.out⟩
        · have d1 : decide (sm ≤ (k : Int)) = false := decide_eq_false hs
          have HS := Lib.hid hs
          clear hs
          have e6 : wrap64 ((k : Int) + 1) = ((k + 1 : Nat) : Int) := by unfold wrap64; omega
          gi_wp2
          refine ⟨(Holds.refl HLT.out).set (p := ⟨wo.heap.size, 0, none⟩) (show wo.heap.size ≠ W0.heap.size by omega) (show wo.heap.size ≠ W0.heap.size + 1 by omega) _, ?_, ?_, ?_, ?_, ?_, ?_, Or.inr (by have := HS.out; omega)⟩
          · exact HI.out.1.fr (S' := fun j => j = wo.heap.size) ((Fr.refl (fun j => j = wo.heap.size) W2).setCell (p := ⟨wo.heap.size, 0, none⟩) (fun _ => rfl) _) (fun j hj e => by have := HTW.out.lt j hj; omega) (fun j hj => by have := HTW.out.br.2; omega)
          · exact HI.out.2.1.far (p := ⟨wo.heap.size, 0, none⟩) (show wo.heap.size + 1 ≠ wo.heap.size by omega) _
          · exact HI.out.2.2.1.put 0 _
          · exact HI.out.2.2.2.1.far (p := ⟨wo.heap.size, 0, none⟩) (show w.heap.size ≠ wo.heap.size by omega) _
          · exact HI.out.2.2.2.2.1.setCell (p := ⟨wo.heap.size, 0, none⟩) (show w.heap.size ≤ wo.heap.size by omega) _
          · have := HI.out.2.2.2.2.2.1; simpa using this
      case hdone =>
        rintro W ⟨h1, h2, h3, h4, h5, h6, h7⟩ hD
        rw [HLL.out] at h3 h7
        have hmm : (i : Int) = max 0 (min sm (i : Int)) := by omega
        have cM := h3.get 0 rfl
        have cS := h4.get 0 rfl
        have HTT := Lib.hid h1
        have HBB := Lib.hid (And.intro h5 (And.intro h6 hD))
        clear h1 h2 h3 h4 h5 h6 hD bM bT bS BW TW hBo
        have HNS := Lib.hid (next_tells HOK.out ask)
        have NA := Lib.hid (tb_next T n S L ask W HTT.out HAS.out.1)
        have GA := Lib.hid (tb_get T n S L ((tnext ask L).getD 0) W HTT.out)
        have LA := Lib.hid (fun W h => tb_len T n S L W h)
        rw [HLL.out] at LA
        obtain ⟨th, hth⟩ : ∃ x, tget ((tnext ask L).getD 0) L = x := ⟨_, rfl⟩
        rw [hth] at HNS GA
        obtain ⟨nx, hnx⟩ : ∃ x, (tnext ask L).getD 0 = x := ⟨_, rfl⟩
        obtain ⟨nb, hnb⟩ : ∃ x, (tnext ask L).isSome = x := ⟨_, rfl⟩
        rw [hnx] at HNS NA GA
        rw [hnb] at HNS NA
        clear hnx hnb hth
        obtain ⟨tb, htb⟩ : ∃ x, th.isSome = x := ⟨_, rfl⟩
        rw [htb] at HNS GA
        clear htb
        have hfin : (nb = true ∧ ask < nx ∧ tb = true) ∨ nb = false := by
          rcases Bool.eq_false_or_eq_true nb with h | h
          · exact Or.inl ⟨h, HNS.out.1 h⟩
          · exact Or.inr h
        have HMM2 := Lib.hid hmm
        have hl0 : (0 : Int) ≤ (i : Int) := by omega
        clear hmm HNS
        rcases hfin with ⟨rfl, hgt, rfl⟩ | rfl
        all_goals
          go_wp2_with fail
          with_reducible refine (NA.out).mono ?_
          rintro e wx ⟨rfl, rfl⟩
          go_wp2_with fail
          with_reducible refine (GA.out).mono ?_
          rintro e w6 ⟨rfl, hb6⟩
          have HB6 := Lib.hid (And.intro (below_next HBB.out.1 hb6) ((hb6.block _ (Array.getElem?_eq_some_iff.1 HBB.out.2.2).1).trans HBB.out.2.2))
          have cM6 := (hb6.cell (p := ⟨wo.heap.size, 0, none⟩) (Nat.lt_of_lt_of_le (by show wo.heap.size < W0.heap.size; omega) HBB.out.2.1)).trans cM
          have cS6 := (hb6.cell (p := ⟨w.heap.size, 0, none⟩) (Nat.lt_of_lt_of_le (by show w.heap.size < W0.heap.size; omega) HBB.out.2.1)).trans cS
          have HT6 := Lib.hid (HTT.out.next hb6)
          clear hb6 cM cS
          go_wp2_with fail
          with_reducible refine (LA.out _ HT6.out).mono ?_
          rintro e wx ⟨rfl, rfl⟩
          go_wp2
          all_goals
            refine marks_ret (B := w.heap.size) [W0.heap.size] rfl (by intro D hd; simp only [List.mem_singleton] at hd; subst hd; exact ⟨by omega, HB6.out.2⟩) (by simp) ?_
            intro w' hs
            refine ⟨_, results_tmp rfl _ _ _, ?_, below_stays HB6.out.1 hs (Nat.le_refl _)⟩
            have := HMM2.out
            first | rfl | (simp; omega)
      case hstop =>
        rintro cd k W hk ⟨rfl, j, rfl, h1, h2, h3, h4, h5, h6, h7, h8⟩ hD
        rw [HLL.out] at hk
        have hmm : (j : Int) = max 0 (min sm (i : Int)) := by omega
        refine wp_exit ?_
        have cM := h3.get 0 rfl
        have cS := h4.get 0 rfl
        have HTT := Lib.hid h1
        have HBB := Lib.hid (And.intro h5 (And.intro h6 hD))
        clear h1 h2 h3 h4 h5 h6 hD bM bT bS BW TW hBo
        have HNS := Lib.hid (next_tells HOK.out ask)
        have NA := Lib.hid (tb_next T n S L ask W HTT.out HAS.out.1)
        have GA := Lib.hid (tb_get T n S L ((tnext ask L).getD 0) W HTT.out)
        have LA := Lib.hid (fun W h => tb_len T n S L W h)
        rw [HLL.out] at LA
        obtain ⟨th, hth⟩ : ∃ x, tget ((tnext ask L).getD 0) L = x := ⟨_, rfl⟩
        rw [hth] at HNS GA
        obtain ⟨nx, hnx⟩ : ∃ x, (tnext ask L).getD 0 = x := ⟨_, rfl⟩
        obtain ⟨nb, hnb⟩ : ∃ x, (tnext ask L).isSome = x := ⟨_, rfl⟩
        rw [hnx] at HNS NA GA
        rw [hnb] at HNS NA
        clear hnx hnb hth
        obtain ⟨tb, htb⟩ : ∃ x, th.isSome = x := ⟨_, rfl⟩
        rw [htb] at HNS GA
        clear htb
        have hfin : (nb = true ∧ ask < nx ∧ tb = true) ∨ nb = false := by
          rcases Bool.eq_false_or_eq_true nb with h | h
          · exact Or.inl ⟨h, HNS.out.1 h⟩
          · exact Or.inr h
        have HMM2 := Lib.hid hmm
        have hl0 : (0 : Int) ≤ (i : Int) := by omega
        clear hmm HNS
        rcases hfin with ⟨rfl, hgt, rfl⟩ | rfl
        all_goals
          go_wp2_with fail
          with_reducible refine (NA.out).mono ?_
          rintro e wx ⟨rfl, rfl⟩
          go_wp2_with fail
          with_reducible refine (GA.out).mono ?_
          rintro e w6 ⟨rfl, hb6⟩
          have HB6 := Lib.hid (And.intro (below_next HBB.out.1 hb6) ((hb6.block _ (Array.getElem?_eq_some_iff.1 HBB.out.2.2).1).trans HBB.out.2.2))
          have cM6 := (hb6.cell (p := ⟨wo.heap.size, 0, none⟩) (Nat.lt_of_lt_of_le (by show wo.heap.size < W0.heap.size; omega) HBB.out.2.1)).trans cM
          have cS6 := (hb6.cell (p := ⟨w.heap.size, 0, none⟩) (Nat.lt_of_lt_of_le (by show w.heap.size < W0.heap.size; omega) HBB.out.2.1)).trans cS
          have HT6 := Lib.hid (HTT.out.next hb6)
          clear hb6 cM cS
          go_wp2_with fail
          with_reducible refine (LA.out _ HT6.out).mono ?_
          rintro e wx ⟨rfl, rfl⟩
          go_wp2
          all_goals
            refine marks_ret (B := w.heap.size) [W0.heap.size] rfl (by intro D hd; simp only [List.mem_singleton] at hd; subst hd; exact ⟨by omega, HB6.out.2⟩) (by simp) ?_
            intro w' hs
            refine ⟨_, results_tmp rfl _ _ _, ?_, below_stays HB6.out.1 hs (Nat.le_refl _)⟩
            have := HMM2.out
            first | rfl | (simp; omega)

end Go.Proofs.YtddehgcdflfonaaDoor
