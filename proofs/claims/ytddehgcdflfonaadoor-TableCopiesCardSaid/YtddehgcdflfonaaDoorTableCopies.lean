/-
  The law TableCopies, walked.
-/
import Derived.Test.YtddehgcdflfonaaDoorProg
import Derived.Test.YtddehgcdflfonaaDoorTabH
import Derived.Test.YtddehgcdflfonaaDoorTabCols
namespace Go.Proofs.YtddehgcdflfonaaDoor
set_option linter.unusedVariables false
set_option linter.unusedSimpArgs false
set_option maxRecDepth 100000
open Go.RowKit Go.Shelf

attribute [local go_sem] Oper.semAt_some

/-- Each is dropped, and put in. -/
def copRow (L : TRow) (I V : Nat → Int) : Nat → TRow
  | 0 => L
  | i + 1 => tput (I i) (V i) (tdel (I i) (copRow L I V i))
theorem copRow_ok {L : TRow} (h : TOk L) {I V : Nat → Int} (hV : ∀ i, Word (V i)) : ∀ k, TOk (copRow L I V k)
  | 0 => h
  | k + 1 => tput_ok ((copRow_ok h hV k).del _) (hV k)
theorem copRow_has {L : TRow} {I V : Nat → Int} : ∀ (k j : Nat), j < k → 1 ≤ I j → I j ≤ 65535 → (tget (I j) (copRow L I V k)).isSome = true
  | 0, j, h, _, _ => absurd h (by omega)
  | k + 1, j, h, h1, h2 => by
    show (tget (I j) (tput (I k) (V k) (tdel (I k) (copRow L I V k)))).isSome = true
    by_cases c : I j = I k
    · rw [c] at h1 h2 ⊢
      rw [tput_get h1 h2 tdel_get]
      rfl
    · have hj : j < k := by
        apply Nat.lt_of_not_le
        intro hle
        have : j = k := by omega
        subst this
        exact c rfl
      have ih := copRow_has (L := L) (I := I) (V := V) k j hj h1 h2
      unfold tput
      split
      · rw [tget_ins tdel_get, if_neg c, tget_del, if_neg c]
        exact ih
      · rw [tget_del, if_neg c]
        exact ih

theorem copRow_is {L : TRow} (hL : TOk L) {I V : Nat → Int} (hV : ∀ i, Word (V i)) {k j : Nat} (h : j < k) : (tget (I j) (copRow L I V k)).isSome = decide (1 ≤ I j ∧ I j ≤ 65535) := by
  by_cases c : 1 ≤ I j ∧ I j ≤ 65535
  · rw [copRow_has k j h c.1 c.2, decide_eq_true c]
  · rw [decide_eq_false c]
    have hok := copRow_ok hL (I := I) hV k
    have : tget (I j) (copRow L I V k) = none := tget_none.2 fun p hp e => c (e ▸ hok.ids p hp)
    rw [this]
    rfl

set_option maxHeartbeats 16000000 in
theorem tableCopies_walk (w : World) (hB : BrAt w) (A : Option Addr) (n c : Nat) (K : Nat → Int) (fK : ∀ i, i < n → (Lit.int .u8 (K i)).wf = true) (I : Nat → Int) (fI : ∀ i, i < n → (Lit.int .i64 (I i)).wf = true) (V : Nat → Int) (fV : ∀ i, i < n → (Lit.int .u64 (V i)).wf = true) (Q : Nat → Int) (fQ : ∀ i, i < n → (Lit.int .i64 (Q i)).wf = true) (hl : n ≤ c) (hm : c ≤ maxLen)
    (hA : 0 < n → ∃ b off, A = some ⟨b, off, none⟩ ∧ b < w.heap.size) (hK : ∀ b off, A = some ⟨b, off, none⟩ → ∀ i, i < n → w.cell? ⟨b, off + (i * 4 + 0), none⟩ = some (.int .u8 (K i))) (hI : ∀ b off, A = some ⟨b, off, none⟩ → ∀ i, i < n → w.cell? ⟨b, off + (i * 4 + 1), none⟩ = some (.int .i64 (I i)))
    (hV : ∀ b off, A = some ⟨b, off, none⟩ → ∀ i, i < n → w.cell? ⟨b, off + (i * 4 + 2), none⟩ = some (.int .u64 (V i))) (hQ : ∀ b off, A = some ⟨b, off, none⟩ → ∀ i, i < n → w.cell? ⟨b, off + (i * 4 + 3), none⟩ = some (.int .i64 (Q i)))
    (A' : Option Addr) (m c' : Nat) (K' : Nat → Int) (fK' : ∀ i, i < m → (Lit.int .u8 (K' i)).wf = true) (I' : Nat → Int) (fI' : ∀ i, i < m → (Lit.int .i64 (I' i)).wf = true) (V' : Nat → Int) (fV' : ∀ i, i < m → (Lit.int .u64 (V' i)).wf = true) (Q' : Nat → Int) (fQ' : ∀ i, i < m → (Lit.int .i64 (Q' i)).wf = true) (hl' : m ≤ c') (hm' : c' ≤ maxLen)
    (hA' : 0 < m → ∃ b off, A' = some ⟨b, off, none⟩ ∧ b < w.heap.size) (hK' : ∀ b off, A' = some ⟨b, off, none⟩ → ∀ i, i < m → w.cell? ⟨b, off + (i * 4 + 0), none⟩ = some (.int .u8 (K' i))) (hI' : ∀ b off, A' = some ⟨b, off, none⟩ → ∀ i, i < m → w.cell? ⟨b, off + (i * 4 + 1), none⟩ = some (.int .i64 (I' i)))
    (hV' : ∀ b off, A' = some ⟨b, off, none⟩ → ∀ i, i < m → w.cell? ⟨b, off + (i * 4 + 2), none⟩ = some (.int .u64 (V' i))) (hQ' : ∀ b off, A' = some ⟨b, off, none⟩ → ∀ i, i < m → w.cell? ⟨b, off + (i * 4 + 3), none⟩ = some (.int .i64 (Q' i))) :
    Calls Tryd.prog 5 #[.slice A n c, .slice A' m c'] w fun e w' => e = .returned (.bool true) ∧ Below w.heap.size w w' := by
  have HA := Lib.hid (tacts_of hA hK hI hV hQ)
  have HA' := Lib.hid (tacts_of hA' hK' hI' hV' hQ')
  have HM : Hid (TMay (colF K n) (colF I n) (colF V n) (colF Q n)) := ⟨colF_byte fK, colF_int fI, colF_word (fun i hi => word_of_wf (fV i hi)), colF_int fQ⟩
  have HM' : Hid (TMay (colF K' m) (colF I' m) (colF V' m) (colF Q' m)) := ⟨colF_byte fK', colF_int fI', colF_word (fun i hi => word_of_wf (fV' i hi)), colF_int fQ'⟩
  have HB := Lib.hid hB
  have HLC := Lib.hid (And.intro hl hm)
  clear hA hK hI hV hQ fK fI fV fQ hB hl hm hA' hK' hI' hV' hQ' fK' fI' fV' fQ' hl' hm'
  generalize colF K n = K at HA HM
  generalize colF I n = I at HA HM
  generalize colF V n = V at HA HM
  generalize colF Q n = Q at HA HM
  generalize colF K' m = K' at HA' HM'
  generalize colF I' m = I' at HA' HM'
  generalize colF V' m = V' at HA' HM'
  generalize colF Q' m = Q' at HA' HM'
  obtain ⟨w0, hw0⟩ : ∃ x, w.alloc (.cells #[.bool false] 4) = x := ⟨_, rfl⟩
  have hz0 : w0.heap.size = w.heap.size + 1 := by rw [← hw0]; simp
  have B0 : Below w.heap.size w w0 := by rw [← hw0]; exact (Below.refl w.heap.size w).alloc (Nat.le_refl _) _
  have bR : Blk w0 w.heap.size 4 #[.bool false] := by rw [← hw0]; exact Blk.new w _ _
  have HW0 := Lib.hid (And.intro hz0 (And.intro B0 bR))
  have KA : Hid (∀ (W W' : World), Below W.heap.size W W' → w.heap.size ≤ W.heap.size → TActs W A n K I V Q → TActs W' A n K I V Q) := fun W W' hb hz h => h.next hb (fun b off hn e => by obtain ⟨b', off', e', h⟩ := HA.out.addr hn; rw [e] at e'; cases e'; omega)
  have KA' : Hid (∀ (W W' : World), Below W.heap.size W W' → w.heap.size ≤ W.heap.size → TActs W A' m K' I' V' Q' → TActs W' A' m K' I' V' Q') := fun W W' hb hz h => h.next hb (fun b off hn e => by obtain ⟨b', off', e', h⟩ := HA'.out.addr hn; rw [e] at e'; cases e'; omega)
  have HA0 := Lib.hid (KA.out w w0 B0 (Nat.le_refl _) HA.out)
  have HA0' := Lib.hid (KA'.out w w0 B0 (Nat.le_refl _) HA'.out)
  clear hz0 B0 bR
  have HEQ := Lib.hid hw0
  clear hw0
  refine calls_of_wp_marks Tryd.func5 rfl ?_
  simp only [Tryd.ntmps5, List.size_toArray, List.length_cons, List.length_nil, Nat.reduceAdd, Nat.reduceSub, Array.replicate_succ, Array.replicate_zero, List.push_toArray, List.append_toArray, List.nil_append, List.cons_append]
  go_wp2_with fail
  rw [HEQ.out]
  with_reducible refine (tab_awake w0 (HB.out.next HW0.out.2.1)).mono ?_
  rintro e w1 ⟨rfl, hb1⟩
  have HB1 := Lib.hid (And.intro ((HB.out.next HW0.out.2.1).next hb1) (And.intro (HW0.out.2.1.trans (hb1.mono (by have := HW0.out.1; omega))) (And.intro (HW0.out.2.2.next hb1) (And.intro (KA.out _ _ hb1 (by have := HW0.out.1; omega) HA0.out) (KA'.out _ _ hb1 (by have := HW0.out.1; omega) HA0'.out)))))
  have hz1 : w.heap.size < w1.heap.size := by have := hb1.size; have := HW0.out.1; omega
  have cR := HB1.out.2.2.1.get 0 rfl
  have fR := HB1.out.2.2.1.frozen 0
  clear hb1 HA0 HA0' HW0 HEQ
  have hsmall : 100 < n ∨ 100 < m ∨ (n ≤ 100 ∧ m ≤ 100) := by omega
  rcases hsmall with hn | hn | ⟨hn, hn'⟩
  · have d1 : decide ((100 : Int) < (n : Int)) = true := decide_eq_true (by omega)
    have d2 : decide (100 < n) = true := decide_eq_true hn
    clear hn
    go_wp2
    refine marks_ret (B := w.heap.size) [] rfl (by intro D hd; cases hd) (by simp) ?_
    intro w' hs
    have HBW := HB1.out.2.1.setCell (p := ⟨w.heap.size, 0, none⟩) (Nat.le_refl _) (.bool true)
    have hr := Blk.get ((HB1.out.2.2.1.put 0 (.bool true)).stays hs) 0 rfl
    refine ⟨.bool true, by simp [results, Tryd.results5, go_sem, hr]; try rfl, rfl, below_stays HBW hs (Nat.le_refl _)⟩
  · have d1 : decide ((100 : Int) < (m : Int)) = true := decide_eq_true (by omega)
    have d2 : decide (100 < m) = true := decide_eq_true hn
    clear hn
    go_wp2
    all_goals
      refine marks_ret (B := w.heap.size) [] rfl (by intro D hd; cases hd) (by simp) ?_
      intro w' hs
      have HBW := HB1.out.2.1.setCell (p := ⟨w.heap.size, 0, none⟩) (Nat.le_refl _) (.bool true)
      have hr := Blk.get ((HB1.out.2.2.1.put 0 (.bool true)).stays hs) 0 rfl
      refine ⟨.bool true, by simp [results, Tryd.results5, go_sem, hr]; try rfl, rfl, below_stays HBW hs (Nat.le_refl _)⟩
  · have d1 : decide ((100 : Int) < (n : Int)) = false := decide_eq_false (by omega)
    have d2 : decide (100 < n) = false := decide_eq_false (by omega)
    have d3 : decide ((100 : Int) < (m : Int)) = false := decide_eq_false (by omega)
    have d4 : decide (100 < m) = false := decide_eq_false (by omega)
    have HN := Lib.hid (And.intro hn hn')
    clear hn hn'
    go_wp2_with fail
    with_reducible refine (acted_any A n c K I V Q w1 HB1.out.1 HB1.out.2.2.2.1 HM.out (by have := HN.out; omega) HLC.out.1 HLC.out.2).mono ?_
    rintro e w2 ⟨T, ST, rfl, hT, hb2, hST⟩
    obtain ⟨L, hL⟩ : ∃ L, actRow K I V n = L := ⟨_, rfl⟩
    rw [hL] at hT
    have HL := Lib.hid hL
    have HT2 := Lib.hid (And.intro hT (And.intro hb2 hST))
    clear hT hb2 hST hL
    go_wp2_with fail
    with_reducible refine (acted_any A n c K I V Q w2 HT2.out.1.br (KA.out _ _ HT2.out.2.1 (by omega) HB1.out.2.2.2.1) HM.out (by have := HN.out; omega) HLC.out.1 HLC.out.2).mono ?_
    rintro e w3 ⟨U, SU, rfl, hU, hb3, hSU⟩
    rw [HL.out] at hU
    have HT3 := Lib.hid (And.intro (HT2.out.1.next hb3) (And.intro hU (And.intro hSU (below_next HT2.out.2.1 hb3))))
    have hz23 := hb3.size
    clear hU hb3 hSU
    go_wp2_with fail
    obtain ⟨w4, hw4⟩ : ∃ x, w3.alloc (.cells #[.pointer (some ⟨U, 0, none⟩)] 24) = x := ⟨_, rfl⟩
    have hb4 : Below w3.heap.size w3 w4 := by rw [← hw4]; exact (Below.refl _ _).alloc (Nat.le_refl _) _
    have bU : Blk w4 w3.heap.size 24 #[.pointer (some ⟨U, 0, none⟩)] := by rw [← hw4]; exact Blk.new w3 _ _
    have hz4 : w4.heap.size = w3.heap.size + 1 := by rw [← hw4]; simp
    rw [hw4]
    clear hw4
    have hL100 : L.length ≤ 65535 := HT2.out.1.ok.few
    have HT4 := Lib.hid (And.intro (HT3.out.1.next hb4) (And.intro (HT3.out.2.1.next hb4) (And.intro HT3.out.2.2.1 (And.intro bU (below_next HT3.out.2.2.2 hb4)))))
    have HB4 := Lib.hid (And.intro (HB1.out.2.2.1.next HT4.out.2.2.2.2) (And.intro (KA'.out _ _ HT4.out.2.2.2.2 (by omega) HB1.out.2.2.2.2) (below_next HB1.out.2.1 HT4.out.2.2.2.2)))
    have HZ := Lib.hid (And.intro HT2.out.1.lt (And.intro HT3.out.2.1.lt (And.intro HT2.out.2.1.size (And.intro HT3.out.1.br.2 HT3.out.2.2.2.size))))
    have hz4' : w3.heap.size < w4.heap.size := by omega
    have hz3 : w.heap.size < w3.heap.size := by have := HZ.out.2.2.2.2; omega
    clear hb4 bU hz4 HT3 HT2 HB1 hz1 cR fR
    have cR := HB4.out.1.get 0 rfl
    have fR := HB4.out.1.frozen 0
    have cU := HT4.out.2.2.2.1.get 0 rfl
    go_wp2_with fail
    with_reducible refine (tb_copy_nil T n ST L w4 HT4.out.1).mono ?_
    rintro e w5 ⟨C, SC, rfl, hC, hb5, hSC⟩
    rw [mapRow_id] at hC
    have HC5 := Lib.hid (And.intro hC (And.intro hb5 hSC))
    clear hC hb5 hSC
    have cR := (HC5.out.2.1.cell (p := ⟨w.heap.size, 0, none⟩) (by show w.heap.size < _; omega)).trans cR
    have cU := (HC5.out.2.1.cell (p := ⟨w3.heap.size, 0, none⟩) (by show w3.heap.size < _; omega)).trans cU
    go_wp2
    go_loopg [8] m (fun gk ix wr => ∃ i : Nat, i + gk = m ∧ ix = .int .i64 i ∧ (∃ Sc, Tb wr C Sc (L.length + i) (copRow L I' V' i) ∧ ∀ k, Sc k → w4.heap.size ≤ k) ∧ Below w4.heap.size w4 wr)
    case atStart => exact ⟨0, by omega, rfl, ⟨SC, HC5.out.1, HC5.out.2.2⟩, HC5.out.2.1⟩
    case round =>
      obtain ⟨i, hi, rfl, ⟨Sc, hC, hS⟩, hb⟩ := hrel
      have HCR := Lib.hid hC
      have HSR := Lib.hid hS
      have HBR := Lib.hid hb
      clear hC hS hb HC5 cR cU
      obtain ⟨wo, rfl⟩ : ∃ x : World, x = wr := ⟨_, rfl⟩
      by_cases hlt : i < m
      · obtain ⟨gm, rfl⟩ : ∃ gm, gk = gm + 1 := ⟨gk - 1, by omega⟩
        obtain ⟨bA, off, rfl, hbA⟩ := HB4.out.2.1.addr (by omega)
        obtain ⟨-, c1, c2, -⟩ := HB4.out.2.1.cells bA off rfl i hlt
        have hvb := HM'.out.v i
        have HSTEP := Lib.hid (show copRow L I' V' (i + 1) = tput (I' i) (V' i) (tdel (I' i) (copRow L I' V' i)) from rfl)
        obtain ⟨id, hid⟩ : ∃ x, I' i = x := ⟨_, rfl⟩
        obtain ⟨v, hv⟩ : ∃ x, V' i = x := ⟨_, rfl⟩
        rw [hid, hv] at HSTEP
        rw [hid] at c1
        rw [hv] at c2 hvb
        clear hid hv
        have HV := Lib.hid hvb
        clear hvb
        have HN2 := Lib.hid (show L.length + i < 1000000 by have := HN.out; omega)
        have p0 : (0 : Int) ≤ (i : Int) := by omega
        have p1 : (i : Int) < (m : Int) := by omega
        have e5 : wrap64 ((i : Int) + 1) = ((i + 1 : Nat) : Int) := by have := HN.out; unfold wrap64; omega
        have HC2 := Lib.hid c2
        have HC1 := Lib.hid c1
        have c1 := (HBR.out.cell (p := ⟨bA, off + i * 4 + 1, none⟩) hbA).trans c1
        have HbA := Lib.hid hbA
        clear c2
        go_wp2_with fail
        with_reducible refine (tb_drop C _ Sc _ id wo HCR.out).mono ?_
        rintro e wp ⟨rfl, hT', hF⟩
        have hbp := HBR.out.trans (hF.below HBR.out.size (fun j hj hs => by have := HSR.out j hs; omega))
        have c1 := (hbp.cell (p := ⟨bA, off + i * 4 + 1, none⟩) HbA.out).trans HC1.out
        have c2 := (hbp.cell (p := ⟨bA, off + i * 4 + 2, none⟩) HbA.out).trans HC2.out
        have HP := Lib.hid (And.intro (hT'.next (below_of_drew (Below.refl wp.heap.size wp))) (And.intro hF hbp))
        clear hT' hF hbp
        go_wp2
        go_still_tail 11, (by kernel_rfl)
        go_wp2_with fail
        with_reducible refine (tb_put C _ Sc _ id v wp.drew HP.out.1 HV.out HN2.out).mono ?_
        rintro e wq ⟨rfl, S', hT', hF', hN'⟩
        have HQ := Lib.hid (And.intro hT' (And.intro (HP.out.2.1.trans ((Fr.refl Sc wp).drew.trans hF')) hN'))
        have HDZ := Lib.hid (show wp.heap.size ≤ wp.drew.heap.size from (below_of_drew (Below.refl wp.heap.size wp)).size)
        clear hT' hF' hN'
        go_wp2
        go_roundg gm
        case rel => exact ⟨i + 1, by omega, by go_num, ⟨S', by rw [HSTEP.out]; exact HQ.out.1, fun j hj => by
          rcases HQ.out.2.2 j hj with h | h
          · exact HSR.out j h
          · exact Nat.le_trans HP.out.2.2.size (Nat.le_trans HDZ.out h)⟩, HBR.out.trans (HQ.out.2.1.below HBR.out.size (fun j hj hs => by have := HSR.out j hs; omega))⟩
        case measure => omega
      · obtain rfl : gk = 0 := by omega
        obtain rfl : i = m := by omega
        have HTW := Lib.hid (HT4.out.1.next HBR.out)
        have HUW := Lib.hid (HT4.out.2.1.next HBR.out)
        have bU := HT4.out.2.2.2.1.next HBR.out
        have bR := HB4.out.1.next HBR.out
        have cU := bU.get 0 rfl
        have cR := bR.get 0 rfl
        have hfew := HTW.out.ok.few
        have HOK := Lib.hid HTW.out.ok
        have HCK := Lib.hid (fun j (hj : j < i) => copRow_is HOK.out (I := I') HM'.out.v hj)
        obtain ⟨l, hll⟩ : ∃ l, L.length = l := ⟨_, rfl⟩
        have LT : Hid (∀ k, Calls Tryd.prog 12 #[.pointer (some ⟨T, 0, none⟩)] (wo.drewN k) fun e w'' => e = .returned (.int .i64 (l : Int)) ∧ ∃ q, w'' = wo.drewN q) := fun k => (tb_len T n ST L _ (HTW.out.next (below_of_drewN _ _ _))).mono (by rintro e w' ⟨rfl, rfl⟩; exact ⟨by rw [hll], k, rfl⟩)
        have LU : Hid (∀ k, Calls Tryd.prog 12 #[.pointer (some ⟨U, 0, none⟩)] (wo.drewN k) fun e w'' => e = .returned (.int .i64 (l : Int)) ∧ ∃ q, w'' = wo.drewN q) := fun k => (tb_len U n SU L _ (HUW.out.next (below_of_drewN _ _ _))).mono (by rintro e w' ⟨rfl, rfl⟩; exact ⟨by rw [hll], k, rfl⟩)
        have hbw := Lib.hid (HB4.out.2.2.trans (HBR.out.mono HB4.out.2.2.size))
        have HS := Lib.hid (And.intro HBR.out.size HSR.out)
        have HCR2 := Lib.hid HCR.out
        have HA2 := Lib.hid (KA'.out _ _ HBR.out HB4.out.2.2.size HB4.out.2.1)
        go_wp2_with (first | go_quiet ((first | (go_at_call 12; first | exact LT.out _ | exact LU.out _))))
        obtain ⟨wd, hwd⟩ : ∃ x, wo.drewN nq = x := ⟨_, rfl⟩
        have hbd : Below wo.heap.size wo wd := by rw [← hwd]; exact below_of_drewN _ _ _
        rw [hwd]
        clear hwd cU cR
        have HTD := Lib.hid (HTW.out.next hbd)
        have HUD := Lib.hid (HUW.out.next hbd)
        have HCD := Lib.hid (HCR2.out.next hbd)
        have bUD := Lib.hid (bU.next hbd)
        have bRD := Lib.hid (bR.next hbd)
        have HBD := Lib.hid (below_next hbw.out hbd)
        have HAD := Lib.hid (KA'.out _ _ hbd (Nat.le_trans HB4.out.2.2.size HBR.out.size) HA2.out)
        have hz0 : w4.heap.size ≤ wd.heap.size := Nat.le_trans HS.out.1 hbd.size
        have HST := Lib.hid HZ.out.1
        have HSU := Lib.hid HZ.out.2.1
        have HSU2 := Lib.hid HT4.out.2.2.1
        have HSC := Lib.hid HS.out.2
        clear hbd bU bR HTW HUW HCR2 HA2 HCR HBR HS HZ HT4 HB4 LT LU hbw
        with_reducible refine (tab_each _ rfl _).mono ?_
        rintro e w5 ⟨rfl, rfl⟩
        go_wp2_with fail
        have bT := Blk.new wd 24 #[.pointer (some ⟨T, 0, none⟩)]
        have hBo : Below wd.heap.size wd (wd.alloc (.cells #[.pointer (some ⟨T, 0, none⟩)] 24)) := (Below.refl _ _).alloc (Nat.le_refl _) _
        have hsz : wd.heap.size + 1 ≤ (wd.alloc (.cells #[.pointer (some ⟨T, 0, none⟩)] 24)).heap.size := by simp
        obtain ⟨W0, hW0⟩ : ∃ x, wd.alloc (.cells #[.pointer (some ⟨T, 0, none⟩)] 24) = x := ⟨_, rfl⟩
        rw [hW0] at bT hBo hsz ⊢
        clear hW0
        have hws : w.heap.size < wd.heap.size := by omega
        have h0T := HTD.out.next hBo
        have h0U := HUD.out.next hBo
        have h0C := HCD.out.next hBo
        have h0u := bUD.out.next hBo
        have h0r := bRD.out.next hBo
        have h0B := below_next HBD.out hBo
        refine wp_range (gf := 30) (lb := #[.pointer (some ⟨wd.heap.size, 0, none⟩)]) rfl (enters_of Tryd.func30 (by kernel_rfl) rfl) (each_yields T n wd.heap.size ST L) (fun _ _ => rfl)
          (fun k W => Tb W T ST n L ∧ Blk W wd.heap.size 24 #[.pointer (some ⟨T, 0, none⟩)] ∧ Tb W U SU n L ∧ Blk W w3.heap.size 24 #[.pointer (some ⟨U, 0, none⟩)] ∧ Tb W C Sc (l + i) (copRow L I' V' i) ∧ Blk W w.heap.size 4 #[.bool false] ∧ Below w.heap.size w W ∧ W0.heap.size ≤ W.heap.size)
          (fun _ _ _ => False) ?hI (fun _ _ _ _ h _ => h) (fun k A h => ⟨h.1, h.2.1⟩) ?h0 ?hround ?hdone (fun _ _ _ _ h _ => h.elim)
        case hI =>
          rintro k A C ⟨h1, h2, h3, h4, h5, h6, h7, h8⟩ hs
          exact ⟨h1.stays hs, h2.stays hs, h3.stays hs, h4.stays hs, h5.stays hs, h6.stays hs, below_stays h7 hs (by omega), Nat.le_trans h8 hs.size⟩
        case h0 => exact ⟨h0T, bT, h0U, h0u, by rw [hll] at h0C; exact h0C, h0r, h0B, Nat.le_refl _⟩
        case hround =>
          rintro k W hk ⟨h1, h2, h3, h4, h5, h6, h7, h8⟩ hlt
          obtain ⟨i', x, q1, q2, q3⟩ := row_at HOK.out.rises hk
          rw [enc_at q1]
          gi_wp2
          refine ⟨Holds.refl hlt, fun W2 hs => ?_⟩
          have hlt2 := Nat.lt_of_lt_of_le hlt hs.size
          have HI := Lib.hid (And.intro (h1.stays hs) (And.intro (Blk.stays h2 hs) (And.intro (h3.stays hs) (And.intro (Blk.stays h4 hs) (And.intro (h5.stays hs) (And.intro (Blk.stays h6 hs) (And.intro (below_stays h7 hs (by omega)) (Nat.le_trans h8 hs.size))))))))
          have HLT := Lib.hid hlt2
          have cU := HI.out.2.2.2.1.get 0 rfl
          have hd : 1 ≤ 5 := by omega
          have GET := Lib.hid (tb_get U n SU L i' W2 HI.out.2.2.1)
          rw [q3] at GET
          clear h1 h2 h3 h4 h5 h6 h7 h8 hs hlt hk q1 q2 q3 bT hBo hlt2 h0T h0U h0C h0u h0r h0B
          gi_wp2_with (first | (refine ⟨trivial, ?_⟩; gi_at_call 11; refine (CallsIn.inRound (W0.heap.size + 1) (callsIn_wide.2 GET.out)).mono ?_; rintro e W3 ⟨rfl, hb3⟩; have HB3 := Lib.hid hb3; clear hb3))
          refine ⟨(Holds.refl HLT.out).next HB3.out, HI.out.1.next HB3.out, Blk.next HI.out.2.1 HB3.out, HI.out.2.2.1.next HB3.out, Blk.next HI.out.2.2.2.1 HB3.out, HI.out.2.2.2.2.1.next HB3.out, Blk.next HI.out.2.2.2.2.2.1 HB3.out, below_next HI.out.2.2.2.2.2.2.1 HB3.out, Nat.le_trans HI.out.2.2.2.2.2.2.2 HB3.out.size⟩
        case hdone =>
          rintro W ⟨h1, h2, h3, h4, h5, h6, h7, h8⟩ hD
          have HAW := Lib.hid (KA'.out w W h7 (Nat.le_refl _) HA'.out)
          have HCW := Lib.hid h5
          have HRW := Lib.hid h6
          have HBW := Lib.hid (And.intro h7 (And.intro h8 hD))
          have hwW : w.heap.size < W.heap.size := by omega
          clear h1 h2 h3 h4 h5 h6 h7 h8 hD h0T h0U h0C h0u h0r h0B bT hBo
          go_wp2
          go_loopg [13] i (fun gk ix wr => ∃ j : Nat, j + gk = i ∧ ix = .int .i64 j ∧ Below W.heap.size W wr)
          case atStart => exact ⟨0, by omega, rfl, Below.refl _ _⟩
          case round =>
            obtain ⟨j, hj, rfl, hb⟩ := hrel
            have HBR := Lib.hid hb
            clear hb
            obtain ⟨wo, rfl⟩ : ∃ x : World, x = wr := ⟨_, rfl⟩
            by_cases hlt : j < i
            · obtain ⟨gm, rfl⟩ : ∃ gm, gk = gm + 1 := ⟨gk - 1, by omega⟩
              obtain ⟨bA, off, rfl, hbA⟩ := HAW.out.addr (by omega)
              obtain ⟨-, c1, -, -⟩ := HAW.out.cells bA off rfl j hlt
              have hin := HM'.out.i j
              have hck := HCK.out j hlt
              have HG := Lib.hid (fun (W : World) (h : Tb W C Sc (l + i) (copRow L I' V' i)) => tb_get C _ Sc _ (I' j) W h)
              obtain ⟨id, hid⟩ : ∃ x, I' j = x := ⟨_, rfl⟩
              rw [hid] at hck HG hin c1
              rw [hck] at HG
              obtain ⟨va, hva⟩ : ∃ x, (tget id (copRow L I' V' i)).getD 0 = x := ⟨_, rfl⟩
              rw [hva] at HG
              clear hid hva hck
              have p0 : (0 : Int) ≤ (j : Int) := by omega
              have p1 : (j : Int) < (i : Int) := by omega
              have e5 : wrap64 ((j : Int) + 1) = ((j + 1 : Nat) : Int) := by have := HN.out; unfold wrap64; omega
              have HC1 := Lib.hid c1
              have HbA := Lib.hid hbA
              have HG2 := Lib.hid (HG.out wo (HCW.out.next HBR.out))
              have c1 := (HBR.out.cell (p := ⟨bA, off + j * 4 + 1, none⟩) hbA).trans c1
              have hc3 : id < 1 ∨ (1 ≤ id ∧ id ≤ 65535) ∨ 65535 < id := by omega
              rcases hc3 with hc | ⟨hc, hc'⟩ | hc
              · have d : decide (1 ≤ id ∧ id ≤ 65535) = false := decide_eq_false (by omega)
                rw [d] at HG2
                have d1 : decide (1 ≤ id) = false := decide_eq_false (by omega)
                clear hc d hin
                go_wp2_with fail
                with_reducible refine HG2.out.mono ?_
                rintro e wp ⟨rfl, hbp⟩
                have c1 := (hbp.cell (p := ⟨bA, off + j * 4 + 1, none⟩) (Nat.lt_of_lt_of_le HbA.out HBR.out.size)).trans c1
                have HP := Lib.hid hbp
                clear hbp
                go_wp2
                go_roundg gm
                case rel => exact ⟨j + 1, by omega, by go_num, HBR.out.trans (HP.out.mono HBR.out.size)⟩
                case measure => omega
              · have d : decide (1 ≤ id ∧ id ≤ 65535) = true := decide_eq_true ⟨hc, hc'⟩
                rw [d] at HG2
                have d1 : decide (1 ≤ id) = true := decide_eq_true hc
                have d2 : decide (id ≤ 65535) = true := decide_eq_true hc'
                clear hc hc' d hin
                go_wp2_with fail
                with_reducible refine HG2.out.mono ?_
                rintro e wp ⟨rfl, hbp⟩
                have c1 := (hbp.cell (p := ⟨bA, off + j * 4 + 1, none⟩) (Nat.lt_of_lt_of_le HbA.out HBR.out.size)).trans c1
                have HP := Lib.hid hbp
                clear hbp
                go_wp2
                go_roundg gm
                case rel => exact ⟨j + 1, by omega, by go_num, HBR.out.trans (HP.out.mono HBR.out.size)⟩
                case measure => omega
              · have d : decide (1 ≤ id ∧ id ≤ 65535) = false := decide_eq_false (by omega)
                rw [d] at HG2
                have d1 : decide (1 ≤ id) = true := decide_eq_true (by omega)
                have d2 : decide (id ≤ 65535) = false := decide_eq_false (by omega)
                clear hc d hin
                go_wp2_with fail
                with_reducible refine HG2.out.mono ?_
                rintro e wp ⟨rfl, hbp⟩
                have c1 := (hbp.cell (p := ⟨bA, off + j * 4 + 1, none⟩) (Nat.lt_of_lt_of_le HbA.out HBR.out.size)).trans c1
                have HP := Lib.hid hbp
                clear hbp
                go_wp2
                go_roundg gm
                case rel => exact ⟨j + 1, by omega, by go_num, HBR.out.trans (HP.out.mono HBR.out.size)⟩
                case measure => omega
            · obtain rfl : gk = 0 := by omega
              obtain rfl : j = i := by omega
              have bR := HRW.out.next HBR.out
              have cR := bR.get 0 rfl
              have fR := bR.frozen 0
              have HE := Lib.hid (And.intro (below_next HBW.out.1 HBR.out) ((HBR.out.block _ (Array.getElem?_eq_some_iff.1 HBW.out.2.2).1).trans HBW.out.2.2))
              have HRR := Lib.hid bR
              clear bR
              go_wp2
              refine marks_ret (B := w.heap.size) [W0.heap.size] rfl (by intro D hd; simp only [List.mem_singleton] at hd; subst hd; exact ⟨by omega, by rw [Below.heap_setCell _ _ _ _ (show W0.heap.size ≠ w.heap.size by omega)]; exact HE.out.2⟩) (by simp) ?_
              intro w' hs
              have HBF := HE.out.1.setCell (p := ⟨w.heap.size, 0, none⟩) (Nat.le_refl _) (.bool true)
              have hr := Blk.get ((HRR.out.put 0 (.bool true)).stays hs) 0 rfl
              refine ⟨.bool true, by simp [results, Tryd.results5, go_sem, hr]; try rfl, rfl, below_stays HBF hs (Nat.le_refl _)⟩

end Go.Proofs.YtddehgcdflfonaaDoor
