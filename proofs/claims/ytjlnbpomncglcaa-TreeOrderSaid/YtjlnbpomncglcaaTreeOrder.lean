/-
  TreeOrder holds.
-/
import Derived.Test.YtjlnbpomncglcaaProg
import Derived.Test.YtjlnbpomncglcaaRBCols
namespace Go.Proofs.Ytjlnbpomncglcaa
set_option linter.unusedVariables false
set_option linter.unusedSimpArgs false
set_option maxRecDepth 100000
open Go.RowKit Go.Shelf

attribute [local go_sem] Oper.semAt_some

theorem ru_lenE (T : Nat) (t : RB Int) (w : World) (h : TrIsU w T t) :
    Calls Try.prog 36 #[.pointer (some ⟨T, 0, none⟩)] w fun e w' => e = .returned (.int .i64 (t.items.length : Int)) ∧ w = w' := by
  have HT := Lib.hid h
  clear h
  go_enter Try.func36, Try.ntmps36
  go_wp2_with fail
  with_reducible refine (ru_none T w HT.out.tre).mono ?_
  rintro e wx ⟨rfl, rfl⟩
  have x0 : w.cell? ⟨T, 3, none⟩ = some (.int .i64 (t.items.length : Int)) := HT.out.blk.get 3 rfl
  go_wp2_with fail
  go_ret
  exact ⟨rfl, rfl⟩
set_option maxHeartbeats 16000000 in
theorem treeOrder_walk (w : World) (A : Option Addr) (n c : Nat) (N : Nat → Int) (fN : ∀ i, i < n → (Lit.int .u64 (N i)).wf = true) (I : Nat → Int) (fI : ∀ i, i < n → (Lit.int .i64 (I i)).wf = true) (V : Nat → Int) (fV : ∀ i, i < n → (Lit.int .u64 (V i)).wf = true) (D : Nat → Bool) (hl : n ≤ c) (hm : c ≤ maxLen)
    (hA : 0 < n → ∃ b off, A = some ⟨b, off, none⟩ ∧ b < w.heap.size) (hN : ∀ b off, A = some ⟨b, off, none⟩ → ∀ i, i < n → w.cell? ⟨b, off + (i * 4 + 0), none⟩ = some (.int .u64 (N i))) (hI : ∀ b off, A = some ⟨b, off, none⟩ → ∀ i, i < n → w.cell? ⟨b, off + (i * 4 + 1), none⟩ = some (.int .i64 (I i)))
    (hV : ∀ b off, A = some ⟨b, off, none⟩ → ∀ i, i < n → w.cell? ⟨b, off + (i * 4 + 2), none⟩ = some (.int .u64 (V i))) (hD : ∀ b off, A = some ⟨b, off, none⟩ → ∀ i, i < n → w.cell? ⟨b, off + (i * 4 + 3), none⟩ = some (.bool (D i))) (sm : Int) (fsm : (Lit.int .i64 sm).wf = true) :
    Calls Try.prog 7 #[.slice A n c, .int .i64 sm] w fun e w' => e = .returned (.bool true) ∧ Below w.heap.size w w' := by
  have HA := Lib.hid (racts_of hA hN hI hV hD)
  have HSM := Lib.hid (int_of_wf fsm)
  clear hA hN hI hV hD fN fI fV hl hm fsm
  obtain ⟨w0, hw0⟩ : ∃ x, (w.alloc (.cells #[.int .i64 sm] 3)).alloc (.cells #[.bool false] 4) = x := ⟨_, rfl⟩
  have bS : Blk w0 w.heap.size 3 #[.int .i64 sm] := by rw [← hw0]; exact (Blk.new w _ _).alloc _
  have bR : Blk w0 (w.heap.size + 1) 4 #[.bool false] := by rw [← hw0]; exact Blk.new_at (by simp)
  have hb0 : Below w.heap.size w w0 := by rw [← hw0]; go_grown
  have hz0 : w0.heap.size = w.heap.size + 2 := by rw [← hw0]; simp
  have H0 := Lib.hid (And.intro bS (And.intro bR (And.intro hb0 hz0)))
  have HEQ := Lib.hid hw0
  clear bS bR hb0 hz0 hw0
  by_cases hn : 200 < n
  · have HN := Lib.hid hn
    clear hn
    refine calls_of_wp_marks Try.func7 rfl ?_
    simp only [Try.ntmps7, List.size_toArray, List.length_cons, List.length_nil, Nat.reduceAdd, Nat.reduceSub, Array.replicate_succ, Array.replicate_zero, List.push_toArray, List.append_toArray, List.nil_append, List.cons_append]
    go_wp2_with fail
    rw [HEQ.out]
    with_reducible refine (awake_true w0).mono ?_
    rintro e wa ⟨rfl, hb1⟩
    have HB1 := Lib.hid hb1
    clear hb1
    go_wp2_with fail
    with_reducible refine (acted_many A n c wa HN.out).mono ?_
    rintro e w2 ⟨rfl, hb2⟩
    have bR := (H0.out.2.1.next HB1.out).next hb2
    have HB2 := Lib.hid (And.intro (H0.out.2.2.1.trans ((below_next HB1.out hb2).mono H0.out.2.2.1.size)) bR)
    have x4 := bR.get 0 rfl
    have f4 := bR.frozen 0
    have l4 := bR.lt
    clear hb2 bR
    go_wp2
    refine marks_ret (B := w.heap.size) [] rfl (by intro D hd; cases hd) (by simp) ?_
    intro w' hs
    have b4 := ((HB2.out.2.put 0 (.bool true)).alloc (.cells #[.pointer none] 24)).stays hs
    have n4 : w'.cell? ⟨w.heap.size + 1, 0, none⟩ = some (.bool true) := b4.get 0 rfl
    have b5 := below_stays ((HB2.out.1.setCell (p := ⟨w.heap.size + 1, 0, none⟩) (Nat.le_add_right _ 1) (.bool true)).alloc (by simpa using HB2.out.1.size) (.cells #[.pointer none] 24)) hs (Nat.le_refl _)
    exact ⟨_, by simp [results, Try.results7, go_sem, n4]; try rfl, rfl, b5⟩
  have HN := Lib.hid (show n ≤ 200 by omega)
  clear hn
  refine calls_of_wp_marks Try.func7 rfl ?_
  simp only [Try.ntmps7, List.size_toArray, List.length_cons, List.length_nil, Nat.reduceAdd, Nat.reduceSub, Array.replicate_succ, Array.replicate_zero, List.push_toArray, List.append_toArray, List.nil_append, List.cons_append]
  go_wp2_with fail
  rw [HEQ.out]
  with_reducible refine (awake_true w0).mono ?_
  rintro e wa ⟨rfl, hb1⟩
  have HB1 := Lib.hid hb1
  clear hb1
  go_wp2_with fail
  with_reducible refine (acted_any A n c N I V D wa ((HA.out.next H0.out.2.2.1).next HB1.out) HN.out).mono ?_
  rintro e w2 ⟨T, t, rfl, ht, hit⟩
  have HT := Lib.hid ht
  have HT2 := Lib.hid ht.is
  have hlen : t.items.length ≤ 200 := by rw [hit]; exact Nat.le_trans (actsRow_len N I V D n) HN.out
  have HLEN := Lib.hid hlen
  clear ht hit hlen HA
  go_wp2_with fail
  with_reducible refine (ru_Each _ rfl _).mono ?_
  rintro e wx ⟨rfl, rfl⟩
  go_wp2_with fail
  obtain ⟨W0, hW0⟩ : ∃ x, (((w2.alloc (.cells #[.pointer (some ⟨T, 0, none⟩)] 24)).alloc (.cells #[.int .i64 0] 3)).alloc (.cells #[.int .u64 0, .int .i64 0] 31)).alloc (.cells #[.pointer (some ⟨T, 0, none⟩)] 24) = x := ⟨_, rfl⟩
  have b0 : Blk W0 w2.heap.size 24 #[.pointer (some ⟨T, 0, none⟩)] := by rw [← hW0]; exact (((Blk.new w2 _ _).alloc _).alloc _).alloc _
  have b1 : Blk W0 (w2.heap.size + 1) 3 #[.int .i64 0] := by rw [← hW0]; exact ((Blk.new_at (by simp)).alloc _).alloc _
  have b2 : Blk W0 (w2.heap.size + 2) 31 #[.int .u64 0, .int .i64 0] := by rw [← hW0]; exact (Blk.new_at (by simp)).alloc _
  have b3 : Blk W0 (w2.heap.size + 3) 24 #[.pointer (some ⟨T, 0, none⟩)] := by rw [← hW0]; exact Blk.new_at (by simp)
  have hB0 : Below w2.heap.size w2 W0 := by rw [← hW0]; go_grown
  have hsz : W0.heap.size = w2.heap.size + 4 := by rw [← hW0]; simp
  rw [hW0]
  have HSZ := Lib.hid hsz
  clear hW0 hsz
  have hTA := HT.out.next hB0
  have bS := ((H0.out.1.next HB1.out).below HT.out.below (H0.out.1.next HB1.out).lt).next hB0
  have bR := ((H0.out.2.1.next HB1.out).below HT.out.below (H0.out.2.1.next HB1.out).lt).next hB0
  have hw1 : wa.heap.size ≤ w2.heap.size := HT.out.below.size
  have hw01 : w.heap.size + 2 ≤ wa.heap.size := by have := H0.out.2.2.2; have := HB1.out.size; omega
  have HW1 := Lib.hid (And.intro hw1 hw01)
  clear hw1 hw01
  refine wp_range (gf := 70) (lb := #[.pointer (some ⟨w2.heap.size + 3, 0, none⟩)]) rfl (enters_of Try.func70 (by kernel_rfl) rfl) (ru_yields T (w2.heap.size + 3) t) (fun _ _ => rfl)
    (fun k W => TrAt wa W T t ∧ Blk W (w2.heap.size + 3) 24 #[.pointer (some ⟨T, 0, none⟩)] ∧ Blk W w2.heap.size 24 #[.pointer (some ⟨T, 0, none⟩)] ∧ Blk W (w2.heap.size + 1) 3 #[.int .i64 (k : Int)] ∧ (∃ a d, Blk W (w2.heap.size + 2) 31 #[.int .u64 a, .int .i64 d] ∧ ∀ j, k = j + 1 → ∃ v, t.items[j]? = some ((a, d), v)) ∧ (Blk W w.heap.size 3 #[.int .i64 sm] ∧ Blk W (w.heap.size + 1) 4 #[.bool false]) ∧ W0.heap.size ≤ W.heap.size)
    (fun _ _ _ => False) ?hI (fun _ _ _ _ h _ => h) (fun k A h => ⟨h.1.is, h.2.1⟩) ?h0 ?hround ?hdone (fun _ _ _ _ h _ => h.elim)
  case hI =>
    rintro k A C ⟨h1, h2, h3, h4, ⟨a, d, h5, h6⟩, ⟨h7, h8⟩, h9⟩ hs
    exact ⟨h1.stays hs (by have := HW1.out; have := HSZ.out; omega), h2.stays hs, h3.stays hs, h4.stays hs, ⟨a, d, h5.stays hs, h6⟩, ⟨h7.stays hs, h8.stays hs⟩, Nat.le_trans h9 hs.size⟩
  case h0 => exact ⟨hTA, b3, b0, b1, ⟨0, 0, b2, fun j hj => by omega⟩, ⟨bS, bR⟩, Nat.le_refl _⟩
  case hround =>
    rintro k W hk ⟨h1, h2, h3, h4, ⟨a, d, h5, h6⟩, ⟨h7, h8⟩, h9⟩ hlt
    obtain ⟨kk, vv, q1⟩ : ∃ kk vv, t.items[k]? = some (kk, vv) := ⟨(t.items[k]).1, (t.items[k]).2, List.getElem?_eq_getElem hk⟩
    rw [encRB_at q1]
    have HQ := Lib.hid (And.intro q1 hk)
    have HLS := Lib.hid h6
    have HI := Lib.hid (And.intro h1 (And.intro h2 (And.intro h3 (And.intro h4 (And.intro h5 (And.intro h7 (And.intro h8 h9)))))))
    clear h1 h2 h3 h4 h5 h6 h7 h8 h9 q1 hk b0 b1 b2 b3 hB0 hTA bS bR
    gi_wp2
    refine ⟨(Holds.refl hlt).alloc _, fun W2 hs => ?_⟩
    obtain ⟨OB, hOB⟩ : ∃ x, x = (.cells #[.int .u64 kk.1, .int .i64 kk.2] 31 : Obj) := ⟨_, rfl⟩
    have hbA : Below W.heap.size W (W.alloc OB) := (Below.refl _ _).alloc (Nat.le_refl _) _
    rw [← hOB] at hs
    have HtN : Hid (Blk W2 W.heap.size 31 #[.int .u64 kk.1, .int .i64 kk.2]) := by rw [hOB] at hs; exact (Blk.new W _ _).stays hs
    have Ht1 := Lib.hid ((HI.out.1.next hbA).stays hs (by have := HW1.out; have := HSZ.out; omega))
    have Ht2 := Lib.hid ((HI.out.2.1.alloc OB).stays hs)
    have Ht3 := Lib.hid ((HI.out.2.2.1.alloc OB).stays hs)
    have ht4 := (HI.out.2.2.2.1.alloc OB).stays hs
    have Ht5 := Lib.hid ((HI.out.2.2.2.2.1.alloc OB).stays hs)
    have Ht7 := Lib.hid (And.intro ((HI.out.2.2.2.2.2.1.alloc OB).stays hs) ((HI.out.2.2.2.2.2.2.1.alloc OB).stays hs))
    have H10 : Hid (W0.heap.size + 1 < W2.heap.size ∧ W.heap.size < W2.heap.size ∧ w.heap.size + 2 ≤ w2.heap.size) := ⟨by have := hs.size; simp only [World.size_alloc] at this; omega, HtN.out.lt, by have := HW1.out; omega⟩
    clear hs hbA hOB hlt
    obtain ⟨kI, hkI⟩ : ∃ x : Int, (k : Int) = x := ⟨_, rfl⟩
    rw [hkI] at ht4
    have Ht4 := Lib.hid ht4
    have HKI := Lib.hid hkI
    have hkn : k < 200 := by have := HLEN.out; have := HQ.out.2; omega
    have e6 : wrap64 (kI + 1) = kI + 1 := by unfold wrap64; omega
    have GET := Lib.hid (ru_get T t kk W2 Ht1.out.is)
    rw [get_of_mem HT2.out.rises (List.mem_of_getElem? HQ.out.1)] at GET
    have LKK := Lib.hid (fun w => rb_less kk.1 kk.2 kk.1 kk.2 w)
    rw [show klt (kk.1, kk.2) (kk.1, kk.2) = false from klt_irr _] at LKK
    have hd : 1 ≤ 5 := by omega
    have HBX := Lib.hid (Below.refl W2.heap.size W2)
    clear ht4
    have k0 := (HtN.out.next HBX.out).get 0 rfl
    have k1 := (HtN.out.next HBX.out).get 1 rfl
    have a0 := (Ht5.out.next HBX.out).get 0 rfl
    have a1 := (Ht5.out.next HBX.out).get 1 rfl
    have fa0 := (Ht5.out.next HBX.out).frozen 0
    have fa1 := (Ht5.out.next HBX.out).frozen 1
    have n0 := (Ht4.out.next HBX.out).get 0 rfl
    have fn0 := (Ht4.out.next HBX.out).frozen 0
    have p0 := (Ht3.out.next HBX.out).get 0 rfl
    have l0 := (HtN.out.next HBX.out).lt
    have l5 := (Ht5.out.next HBX.out).lt
    have l4 := (Ht4.out.next HBX.out).lt
    have l3 := (Ht3.out.next HBX.out).lt

    by_cases hk0 : k = 0
    · subst hk0
      have d1 : decide ((0 : Int) < kI) = false := decide_eq_false (by omega)
      have d2 : (kI == 0) = true := by rw [← hkI]; rfl
      have hfk : firstK t.items = kk := by
        have h := HQ.out.1
        cases hi : t.items with
        | nil => rw [hi] at h; cases h
        | cons p L => rw [hi] at h; cases h; rfl
      have FST := Lib.hid (fun w (h : TrIsU w T t) => ru_first _ t.items _ (overU T t) w h)
      have hem : (!t.items.isEmpty) = true := by
        have h := HQ.out.1
        cases hi : t.items with
        | nil => rw [hi] at h; cases h
        | cons p L => rfl
      rw [hfk, hem] at FST
      clear hkI hkn hfk hem
      gi_wp2_with (first | (refine ⟨trivial, ?_⟩; go_at_K) | (refine ⟨trivial, ?_⟩; gi_at_call 29; with_reducible refine (CallsIn.inRound (W0.heap.size + 1) (callsIn_wide.2 (GET.out))).mono ?_; rintro e W3 ⟨rfl, hbn⟩; replace HBX := Lib.hid (below_next HBX.out hbn); clear hbn k0 k1 a0 a1 fa0 fa1 n0 fn0 p0 l0 l5 l4 l3; have k0 := (HtN.out.next HBX.out).get 0 rfl; have k1 := (HtN.out.next HBX.out).get 1 rfl; have a0 := (Ht5.out.next HBX.out).get 0 rfl; have a1 := (Ht5.out.next HBX.out).get 1 rfl; have fa0 := (Ht5.out.next HBX.out).frozen 0; have fa1 := (Ht5.out.next HBX.out).frozen 1; have n0 := (Ht4.out.next HBX.out).get 0 rfl; have fn0 := (Ht4.out.next HBX.out).frozen 0; have p0 := (Ht3.out.next HBX.out).get 0 rfl; have l0 := (HtN.out.next HBX.out).lt; have l5 := (Ht5.out.next HBX.out).lt; have l4 := (Ht4.out.next HBX.out).lt; have l3 := (Ht3.out.next HBX.out).lt))
      gi_wp2_with (first | (refine ⟨trivial, ?_⟩; go_at_K) | (refine ⟨trivial, ?_⟩; gi_at_call 38; with_reducible refine (CallsIn.inRound (W0.heap.size + 1) (callsIn_wide.2 (LKK.out _))).mono ?_; rintro e W4 ⟨rfl, hbn⟩; replace HBX := Lib.hid (below_next HBX.out hbn); clear hbn k0 k1 a0 a1 fa0 fa1 n0 fn0 p0 l0 l5 l4 l3; have k0 := (HtN.out.next HBX.out).get 0 rfl; have k1 := (HtN.out.next HBX.out).get 1 rfl; have a0 := (Ht5.out.next HBX.out).get 0 rfl; have a1 := (Ht5.out.next HBX.out).get 1 rfl; have fa0 := (Ht5.out.next HBX.out).frozen 0; have fa1 := (Ht5.out.next HBX.out).frozen 1; have n0 := (Ht4.out.next HBX.out).get 0 rfl; have fn0 := (Ht4.out.next HBX.out).frozen 0; have p0 := (Ht3.out.next HBX.out).get 0 rfl; have l0 := (HtN.out.next HBX.out).lt; have l5 := (Ht5.out.next HBX.out).lt; have l4 := (Ht4.out.next HBX.out).lt; have l3 := (Ht3.out.next HBX.out).lt))
      gi_upto_region 16 with (first | (refine ⟨trivial, ?_⟩; go_at_K) | (refine ⟨trivial, ?_⟩; gi_at_call 39; with_reducible refine (CallsIn.inRound (W0.heap.size + 1) (callsIn_wide.2 (FST.out _ (Ht1.out.is.next HBX.out)))).mono ?_; rintro e W5 ⟨rfl, hbn⟩; replace HBX := Lib.hid (below_next HBX.out hbn); clear hbn k0 k1 a0 a1 fa0 fa1 n0 fn0 p0 l0 l5 l4 l3; have k0 := (HtN.out.next HBX.out).get 0 rfl; have k1 := (HtN.out.next HBX.out).get 1 rfl; have a0 := (Ht5.out.next HBX.out).get 0 rfl; have a1 := (Ht5.out.next HBX.out).get 1 rfl; have fa0 := (Ht5.out.next HBX.out).frozen 0; have fa1 := (Ht5.out.next HBX.out).frozen 1; have n0 := (Ht4.out.next HBX.out).get 0 rfl; have fn0 := (Ht4.out.next HBX.out).frozen 0; have p0 := (Ht3.out.next HBX.out).get 0 rfl; have l0 := (HtN.out.next HBX.out).lt; have l5 := (Ht5.out.next HBX.out).lt; have l4 := (Ht4.out.next HBX.out).lt; have l3 := (Ht3.out.next HBX.out).lt))
      have hb6 : Below W5.heap.size W5 (W5.alloc (.cells #[.int .u64 kk.1, .int .i64 kk.2] 31)) := by go_grown
      have bF := Blk.new W5 31 #[.int .u64 kk.1, .int .i64 kk.2]
      generalize hB5 : W5.heap.size = B5 at bF ⊢
      generalize W5.alloc (.cells #[.int .u64 kk.1, .int .i64 kk.2] 31) = W6 at hb6 bF ⊢
      replace HBX := Lib.hid (below_next HBX.out hb6)
      have g0 := bF.get 0 rfl
      have g1 := bF.get 1 rfl
      clear hb6 bF hB5 k0 k1 a0 a1 fa0 fa1 n0 fn0 p0 l0 l5 l4 l3
      have k0 := (HtN.out.next HBX.out).get 0 rfl
      have k1 := (HtN.out.next HBX.out).get 1 rfl
      have a0 := (Ht5.out.next HBX.out).get 0 rfl
      have a1 := (Ht5.out.next HBX.out).get 1 rfl
      have fa0 := (Ht5.out.next HBX.out).frozen 0
      have fa1 := (Ht5.out.next HBX.out).frozen 1
      have n0 := (Ht4.out.next HBX.out).get 0 rfl
      have fn0 := (Ht4.out.next HBX.out).frozen 0
      have p0 := (Ht3.out.next HBX.out).get 0 rfl
      have l0 := (HtN.out.next HBX.out).lt
      have l5 := (Ht5.out.next HBX.out).lt
      have l4 := (Ht4.out.next HBX.out).lt
      have l3 := (Ht3.out.next HBX.out).lt

      gi_wp2
      have hsz := HSZ.out
      have FX : Fr (fun j => j = w2.heap.size + 2 ∨ j = w2.heap.size + 1) W2 (((W6.setCell ⟨w2.heap.size + 2, 0, none⟩ (.int .u64 kk.1)).setCell ⟨w2.heap.size + 2, 1, none⟩ (.int .i64 kk.2)).setCell ⟨w2.heap.size + 1, 0, none⟩ (.int .i64 (kI + 1))) := (((Fr.of_new (S := fun j => j = w2.heap.size + 2 ∨ j = w2.heap.size + 1) HBX.out).setCell (p := ⟨w2.heap.size + 2, 0, none⟩) (fun _ => Or.inl rfl) _).setCell (p := ⟨w2.heap.size + 2, 1, none⟩) (fun _ => Or.inl rfl) _).setCell (p := ⟨w2.heap.size + 1, 0, none⟩) (fun _ => Or.inr rfl) _
      have hT2 := HT2.out.blk.lt
      have hR2 := RepU.lt HT2.out.rep
      have h10 := H10.out
      have e10 : (((0 + 1 : Nat) : Int)) = kI + 1 := by have := HKI.out; omega
      refine ⟨((((Holds.refl H10.out.1).next HBX.out).set (p := ⟨w2.heap.size + 2, 0, none⟩) (show w2.heap.size + 2 ≠ W0.heap.size by omega) (show w2.heap.size + 2 ≠ W0.heap.size + 1 by omega) _).set (p := ⟨w2.heap.size + 2, 1, none⟩) (show w2.heap.size + 2 ≠ W0.heap.size by omega) (show w2.heap.size + 2 ≠ W0.heap.size + 1 by omega) _).set (p := ⟨w2.heap.size + 1, 0, none⟩) (show w2.heap.size + 1 ≠ W0.heap.size by omega) (show w2.heap.size + 1 ≠ W0.heap.size + 1 by omega) _, ?_, ?_, ?_, ?_, ?_, ?_, ?_⟩
      · exact ⟨Ht1.out.is.fr FX (by show ¬ (_ ∨ _); omega) (fun x hx => by have := hR2 x hx; show ¬ (_ ∨ _); omega), Ht1.out.ge, Ht1.out.bl, Ht1.out.below.trans (FX.below Ht1.out.below.size (fun j hj hn => by have := HW1.out; rcases hn with rfl | rfl <;> omega))⟩
      · exact Ht2.out.fr FX (by show ¬ (_ ∨ _); omega)
      · exact Ht3.out.fr FX (by show ¬ (_ ∨ _); omega)
      · rw [e10]
        exact (((Ht4.out.next HBX.out).far (p := ⟨w2.heap.size + 2, 0, none⟩) (show w2.heap.size + 1 ≠ w2.heap.size + 2 by omega) _).far (p := ⟨w2.heap.size + 2, 1, none⟩) (show w2.heap.size + 1 ≠ w2.heap.size + 2 by omega) _).put 0 _
      · refine ⟨kk.1, kk.2, (((Ht5.out.next HBX.out).put 0 _).put 1 _).far (p := ⟨w2.heap.size + 1, 0, none⟩) (show w2.heap.size + 2 ≠ w2.heap.size + 1 by omega) _, ?_⟩
        intro j hj
        obtain rfl : j = 0 := by omega
        exact ⟨vv, HQ.out.1⟩
      · exact ⟨Ht7.out.1.fr FX (by have := H10.out.2.2; show ¬ (_ ∨ _); omega), Ht7.out.2.fr FX (by have := H10.out.2.2; show ¬ (_ ∨ _); omega)⟩
      · exact Nat.le_trans (by omega) FX.size
    · have d1 : decide ((0 : Int) < kI) = true := decide_eq_true (by omega)
      have d2 : (kI == 0) = false := beq_eq_false_iff_ne.2 (by omega)
      have hkl : klt (a, d) kk = true := by
        obtain ⟨j, rfl⟩ : ∃ j, k = j + 1 := ⟨k - 1, by omega⟩
        obtain ⟨v, hv⟩ := HLS.out j rfl
        have hj : j < t.items.length := (List.getElem?_eq_some_iff.1 hv).1
        have hk2 := HQ.out.2
        have h2 := HQ.out.1
        rw [List.getElem?_eq_getElem hj] at hv
        rw [List.getElem?_eq_getElem hk2] at h2
        have := List.pairwise_iff_getElem.1 HT2.out.rises j (j + 1) hj hk2 (by omega)
        rw [Option.some.inj hv, Option.some.inj h2] at this
        exact this
      have LAK := Lib.hid (fun w => rb_less a d kk.1 kk.2 w)
      rw [show klt (a, d) (kk.1, kk.2) = true from hkl] at LAK
      clear hkI hkn hkl hk0
      gi_wp2_with (first | (refine ⟨trivial, ?_⟩; go_at_K) | (refine ⟨trivial, ?_⟩; gi_at_call 29; with_reducible refine (CallsIn.inRound (W0.heap.size + 1) (callsIn_wide.2 (GET.out))).mono ?_; rintro e W3 ⟨rfl, hbn⟩; replace HBX := Lib.hid (below_next HBX.out hbn); clear hbn k0 k1 a0 a1 fa0 fa1 n0 fn0 p0 l0 l5 l4 l3; have k0 := (HtN.out.next HBX.out).get 0 rfl; have k1 := (HtN.out.next HBX.out).get 1 rfl; have a0 := (Ht5.out.next HBX.out).get 0 rfl; have a1 := (Ht5.out.next HBX.out).get 1 rfl; have fa0 := (Ht5.out.next HBX.out).frozen 0; have fa1 := (Ht5.out.next HBX.out).frozen 1; have n0 := (Ht4.out.next HBX.out).get 0 rfl; have fn0 := (Ht4.out.next HBX.out).frozen 0; have p0 := (Ht3.out.next HBX.out).get 0 rfl; have l0 := (HtN.out.next HBX.out).lt; have l5 := (Ht5.out.next HBX.out).lt; have l4 := (Ht4.out.next HBX.out).lt; have l3 := (Ht3.out.next HBX.out).lt))
      gi_wp2_with (first | (refine ⟨trivial, ?_⟩; go_at_K) | (refine ⟨trivial, ?_⟩; gi_at_call 38; with_reducible refine (CallsIn.inRound (W0.heap.size + 1) (callsIn_wide.2 (LAK.out _))).mono ?_; rintro e W4 ⟨rfl, hbn⟩; replace HBX := Lib.hid (below_next HBX.out hbn); clear hbn k0 k1 a0 a1 fa0 fa1 n0 fn0 p0 l0 l5 l4 l3; have k0 := (HtN.out.next HBX.out).get 0 rfl; have k1 := (HtN.out.next HBX.out).get 1 rfl; have a0 := (Ht5.out.next HBX.out).get 0 rfl; have a1 := (Ht5.out.next HBX.out).get 1 rfl; have fa0 := (Ht5.out.next HBX.out).frozen 0; have fa1 := (Ht5.out.next HBX.out).frozen 1; have n0 := (Ht4.out.next HBX.out).get 0 rfl; have fn0 := (Ht4.out.next HBX.out).frozen 0; have p0 := (Ht3.out.next HBX.out).get 0 rfl; have l0 := (HtN.out.next HBX.out).lt; have l5 := (Ht5.out.next HBX.out).lt; have l4 := (Ht4.out.next HBX.out).lt; have l3 := (Ht3.out.next HBX.out).lt))
      gi_wp2_with (first | (refine ⟨trivial, ?_⟩; go_at_K) | (refine ⟨trivial, ?_⟩; gi_at_call 38; with_reducible refine (CallsIn.inRound (W0.heap.size + 1) (callsIn_wide.2 (LKK.out _))).mono ?_; rintro e W5 ⟨rfl, hbn⟩; replace HBX := Lib.hid (below_next HBX.out hbn); clear hbn k0 k1 a0 a1 fa0 fa1 n0 fn0 p0 l0 l5 l4 l3; have k0 := (HtN.out.next HBX.out).get 0 rfl; have k1 := (HtN.out.next HBX.out).get 1 rfl; have a0 := (Ht5.out.next HBX.out).get 0 rfl; have a1 := (Ht5.out.next HBX.out).get 1 rfl; have fa0 := (Ht5.out.next HBX.out).frozen 0; have fa1 := (Ht5.out.next HBX.out).frozen 1; have n0 := (Ht4.out.next HBX.out).get 0 rfl; have fn0 := (Ht4.out.next HBX.out).frozen 0; have p0 := (Ht3.out.next HBX.out).get 0 rfl; have l0 := (HtN.out.next HBX.out).lt; have l5 := (Ht5.out.next HBX.out).lt; have l4 := (Ht4.out.next HBX.out).lt; have l3 := (Ht3.out.next HBX.out).lt))
      have hsz := HSZ.out
      have FX : Fr (fun j => j = w2.heap.size + 2 ∨ j = w2.heap.size + 1) W2 (((W5.setCell ⟨w2.heap.size + 2, 0, none⟩ (.int .u64 kk.1)).setCell ⟨w2.heap.size + 2, 1, none⟩ (.int .i64 kk.2)).setCell ⟨w2.heap.size + 1, 0, none⟩ (.int .i64 (kI + 1))) := (((Fr.of_new (S := fun j => j = w2.heap.size + 2 ∨ j = w2.heap.size + 1) HBX.out).setCell (p := ⟨w2.heap.size + 2, 0, none⟩) (fun _ => Or.inl rfl) _).setCell (p := ⟨w2.heap.size + 2, 1, none⟩) (fun _ => Or.inl rfl) _).setCell (p := ⟨w2.heap.size + 1, 0, none⟩) (fun _ => Or.inr rfl) _
      have hT2 := HT2.out.blk.lt
      have hR2 := RepU.lt HT2.out.rep
      have h10 := H10.out
      have e10 : (((k + 1 : Nat) : Int)) = kI + 1 := by have := HKI.out; omega
      refine ⟨((((Holds.refl H10.out.1).next HBX.out).set (p := ⟨w2.heap.size + 2, 0, none⟩) (show w2.heap.size + 2 ≠ W0.heap.size by omega) (show w2.heap.size + 2 ≠ W0.heap.size + 1 by omega) _).set (p := ⟨w2.heap.size + 2, 1, none⟩) (show w2.heap.size + 2 ≠ W0.heap.size by omega) (show w2.heap.size + 2 ≠ W0.heap.size + 1 by omega) _).set (p := ⟨w2.heap.size + 1, 0, none⟩) (show w2.heap.size + 1 ≠ W0.heap.size by omega) (show w2.heap.size + 1 ≠ W0.heap.size + 1 by omega) _, ?_, ?_, ?_, ?_, ?_, ?_, ?_⟩
      · exact ⟨Ht1.out.is.fr FX (by show ¬ (_ ∨ _); omega) (fun x hx => by have := hR2 x hx; show ¬ (_ ∨ _); omega), Ht1.out.ge, Ht1.out.bl, Ht1.out.below.trans (FX.below Ht1.out.below.size (fun j hj hn => by have := HW1.out; rcases hn with rfl | rfl <;> omega))⟩
      · exact Ht2.out.fr FX (by show ¬ (_ ∨ _); omega)
      · exact Ht3.out.fr FX (by show ¬ (_ ∨ _); omega)
      · rw [e10]
        exact (((Ht4.out.next HBX.out).far (p := ⟨w2.heap.size + 2, 0, none⟩) (show w2.heap.size + 1 ≠ w2.heap.size + 2 by omega) _).far (p := ⟨w2.heap.size + 2, 1, none⟩) (show w2.heap.size + 1 ≠ w2.heap.size + 2 by omega) _).put 0 _
      · refine ⟨kk.1, kk.2, (((Ht5.out.next HBX.out).put 0 _).put 1 _).far (p := ⟨w2.heap.size + 1, 0, none⟩) (show w2.heap.size + 2 ≠ w2.heap.size + 1 by omega) _, ?_⟩
        intro j hj
        obtain rfl : j = k := by omega
        exact ⟨vv, HQ.out.1⟩
      · exact ⟨Ht7.out.1.fr FX (by have := H10.out.2.2; show ¬ (_ ∨ _); omega), Ht7.out.2.fr FX (by have := H10.out.2.2; show ¬ (_ ∨ _); omega)⟩
      · exact Nat.le_trans (by omega) FX.size

  case hdone =>
    rintro W ⟨h1, h2, h3, h4, ⟨a, d, h5, h6⟩, ⟨h7, h8⟩, h9⟩ hD
    obtain ⟨l, hll⟩ : ∃ l, t.items.length = l := ⟨_, rfl⟩
    rw [hll] at h4
    have HLL := Lib.hid hll
    have HI := Lib.hid (And.intro h1 (And.intro h3 (And.intro h4 (And.intro h7 (And.intro h8 (And.intro h9 hD))))))
    have p0 := h3.get 0 rfl
    have l3 := h3.lt
    clear h1 h2 h3 h4 h5 h6 h7 h8 h9 hD hll b0 b1 b2 b3 hB0 hTA bS bR
    go_wp2_with fail
    with_reducible refine (ru_Each _ rfl _).mono ?_
    rintro e wx ⟨rfl, rfl⟩
    go_wp2_with fail
    obtain ⟨W1, hW1⟩ : ∃ x, (W.alloc (.cells #[.int .i64 0] 3)).alloc (.cells #[.pointer (some ⟨T, 0, none⟩)] 24) = x := ⟨_, rfl⟩
    have c0 : Blk W1 W.heap.size 3 #[.int .i64 0] := by rw [← hW1]; exact (Blk.new W _ _).alloc _
    have c1 : Blk W1 (W.heap.size + 1) 24 #[.pointer (some ⟨T, 0, none⟩)] := by rw [← hW1]; exact Blk.new_at (by simp)
    have hB1 : Below W.heap.size W W1 := by rw [← hW1]; go_grown
    have hsz1 : W1.heap.size = W.heap.size + 2 := by rw [← hW1]; simp
    rw [hW1]
    have HSZ1 := Lib.hid hsz1
    clear hW1 hsz1 p0 l3
    have hdl : W0.heap.size < W.heap.size := (Array.getElem?_eq_some_iff.1 HI.out.2.2.2.2.2.2).1
    have HDL := Lib.hid hdl
    have i1 := HI.out.1.next hB1
    have i2 := HI.out.2.1.next hB1
    have i3 := HI.out.2.2.1.next hB1
    have i4 := HI.out.2.2.2.1.next hB1
    have i5 := HI.out.2.2.2.2.1.next hB1
    have i6 := (hB1.block _ hdl).trans HI.out.2.2.2.2.2.2
    refine wp_range (gf := 70) (lb := #[.pointer (some ⟨W.heap.size + 1, 0, none⟩)]) rfl (enters_of Try.func70 (by kernel_rfl) rfl) (ru_yields T (W.heap.size + 1) t) (fun _ _ => rfl)
      (fun k X => (TrAt wa X T t ∧ Blk X (W.heap.size + 1) 24 #[.pointer (some ⟨T, 0, none⟩)] ∧ Blk X w2.heap.size 24 #[.pointer (some ⟨T, 0, none⟩)] ∧ Blk X (w2.heap.size + 1) 3 #[.int .i64 (l : Int)] ∧ Blk X w.heap.size 3 #[.int .i64 sm] ∧ Blk X (w.heap.size + 1) 4 #[.bool false] ∧ X.heap[W0.heap.size]? = some (.deferred (some [])) ∧ W1.heap.size ≤ X.heap.size) ∧ Blk X W.heap.size 3 #[.int .i64 (k : Int)] ∧ (k = 0 ∨ (k : Int) ≤ sm))
      (fun cd k X => cd = .exit 2 ∧ ∃ j : Nat, k = j + 1 ∧ (TrAt wa X T t ∧ Blk X (W.heap.size + 1) 24 #[.pointer (some ⟨T, 0, none⟩)] ∧ Blk X w2.heap.size 24 #[.pointer (some ⟨T, 0, none⟩)] ∧ Blk X (w2.heap.size + 1) 3 #[.int .i64 (l : Int)] ∧ Blk X w.heap.size 3 #[.int .i64 sm] ∧ Blk X (w.heap.size + 1) 4 #[.bool false] ∧ X.heap[W0.heap.size]? = some (.deferred (some [])) ∧ W1.heap.size ≤ X.heap.size) ∧ Blk X W.heap.size 3 #[.int .i64 (j : Int)] ∧ (j = 0 ∨ (j : Int) ≤ sm) ∧ sm ≤ (j : Int)) ?hI2 ?hIx2 (fun k A h => ⟨h.1.1.is, h.1.2.1⟩) ?h02 ?hround2 ?hdone2 ?hstop2
    case hI2 =>
      rintro k X C ⟨⟨h1, h2, h3, h4, h5, h6, h7, h8⟩, h9, h10⟩ hs
      exact ⟨⟨h1.stays hs (by have := HW1.out; have := HSZ1.out; have := HSZ.out; have := HDL.out; omega), h2.stays hs, h3.stays hs, h4.stays hs, h5.stays hs, h6.stays hs, (hs.low _ (by have := HSZ1.out; have := HDL.out; omega)).trans h7, Nat.le_trans h8 hs.size⟩, h9.stays hs, h10⟩
    case hIx2 =>
      rintro cd k X C ⟨rfl, j, rfl, ⟨h1, h2, h3, h4, h5, h6, h7, h8⟩, h9, h10⟩ hs
      exact ⟨rfl, j, rfl, ⟨h1.stays hs (by have := HW1.out; have := HSZ1.out; have := HSZ.out; have := HDL.out; omega), h2.stays hs, h3.stays hs, h4.stays hs, h5.stays hs, h6.stays hs, (hs.low _ (by have := HSZ1.out; have := HDL.out; omega)).trans h7, Nat.le_trans h8 hs.size⟩, h9.stays hs, h10⟩
    case h02 => exact ⟨⟨i1, c1, i2, i3, i4, i5, i6, Nat.le_refl _⟩, c0, Or.inl rfl⟩
    case hround2 =>
      rintro k X hk ⟨⟨h1, h2, h3, h4, h5, h6, h7, h8⟩, h9, h10⟩ hlt
      obtain ⟨kk, vv, q1⟩ : ∃ kk vv, t.items[k]? = some (kk, vv) := ⟨(t.items[k]).1, (t.items[k]).2, List.getElem?_eq_getElem hk⟩
      rw [encRB_at q1]
      gi_wp2
      refine ⟨Holds.refl hlt, fun X2 hs => ?_⟩
      have hlt2 := Nat.lt_of_lt_of_le hlt hs.size
      have HI2 := Lib.hid (And.intro (h1.stays hs (by have := HW1.out; have := HSZ1.out; have := HSZ.out; have := HDL.out; omega)) (And.intro (h2.stays hs) (And.intro (h3.stays hs) (And.intro (h4.stays hs) (And.intro (h5.stays hs) (And.intro (h6.stays hs) (And.intro ((hs.low _ (by have := HSZ1.out; have := HDL.out; omega)).trans h7) (And.intro (Nat.le_trans h8 hs.size) (And.intro (h9.stays hs) h10)))))))))
      have HLT := Lib.hid hlt2
      have hkf : k < 200 := by have := HLEN.out; omega
      have cM := HI2.out.2.2.2.2.2.2.2.2.1.get 0 rfl
      have fM := HI2.out.2.2.2.2.2.2.2.2.1.frozen 0
      have cS := HI2.out.2.2.2.2.1.get 0 rfl
      clear h1 h2 h3 h4 h5 h6 h7 h8 h9 h10 hs hlt hk q1 hlt2 c0 c1 hB1 i1 i2 i3 i4 i5 i6 hdl
      by_cases hs : sm ≤ (k : Int)
      · have d1 : decide (sm ≤ (k : Int)) = true := decide_eq_true hs
        have HS := Lib.hid hs
        clear hs
        gi_wp2
        exact ⟨Holds.refl HLT.out, rfl, k, rfl, ⟨HI2.out.1, HI2.out.2.1, HI2.out.2.2.1, HI2.out.2.2.2.1, HI2.out.2.2.2.2.1, HI2.out.2.2.2.2.2.1, HI2.out.2.2.2.2.2.2.1, HI2.out.2.2.2.2.2.2.2.1⟩, HI2.out.2.2.2.2.2.2.2.2.1, HI2.out.2.2.2.2.2.2.2.2.2, HS.out⟩
      · have d1 : decide (sm ≤ (k : Int)) = false := decide_eq_false hs
        have HS := Lib.hid hs
        clear hs
        have e6 : wrap64 ((k : Int) + 1) = ((k + 1 : Nat) : Int) := by unfold wrap64; omega
        gi_wp2
        have hz1 := HSZ1.out
        have hz0 := HSZ.out
        have hz2 := HDL.out
        have hz3 := HW1.out
        have FX : Fr (fun j => j = W.heap.size) X2 (X2.setCell ⟨W.heap.size, 0, none⟩ (.int .i64 ((k + 1 : Nat) : Int))) := (Fr.refl (fun j => j = W.heap.size) X2).setCell (p := ⟨W.heap.size, 0, none⟩) (fun _ => rfl) _
        have hT2 := HT2.out.blk.lt
        have hR2 := RepU.lt HT2.out.rep
        refine ⟨(Holds.refl HLT.out).set (p := ⟨W.heap.size, 0, none⟩) (show W.heap.size ≠ W1.heap.size by omega) (show W.heap.size ≠ W1.heap.size + 1 by omega) _, ⟨?_, HI2.out.2.1.fr FX (by show ¬ _ = _; omega), HI2.out.2.2.1.fr FX (by show ¬ _ = _; omega), HI2.out.2.2.2.1.fr FX (by show ¬ _ = _; omega), HI2.out.2.2.2.2.1.fr FX (by show ¬ _ = _; omega), HI2.out.2.2.2.2.2.1.fr FX (by show ¬ _ = _; omega), (Below.heap_setCell _ _ _ _ (show W0.heap.size ≠ W.heap.size by omega)).trans HI2.out.2.2.2.2.2.2.1, Nat.le_trans HI2.out.2.2.2.2.2.2.2.1 FX.size⟩, HI2.out.2.2.2.2.2.2.2.2.1.put 0 _, Or.inr (by have := HS.out; omega)⟩
        exact ⟨HI2.out.1.is.fr FX (by show ¬ _ = _; omega) (fun x hx => by have := hR2 x hx; show ¬ _ = _; omega), HI2.out.1.ge, HI2.out.1.bl, HI2.out.1.below.trans (FX.below HI2.out.1.below.size (fun j hj hn => by have hn : j = W.heap.size := hn; omega))⟩
    case hdone2 =>
      rintro X ⟨⟨h1, h2, h3, h4, h5, h6, h7, h8⟩, h9, h10⟩ hD2
      rw [HLL.out] at h9 h10
      have hmm : (l : Int) = max 0 (min sm (l : Int)) := by omega
      have HX := Lib.hid (And.intro h1 (And.intro h3 (And.intro h4 (And.intro h5 (And.intro h6 (And.intro h7 (And.intro h8 (And.intro h9 hD2))))))))
      have HMM := Lib.hid hmm
      have cP := h3.get 0 rfl
      have cN := h4.get 0 rfl
      have cS := h5.get 0 rfl
      have fR := h6.frozen 0
      have cR := h6.get 0 rfl
      have cM := h9.get 0 rfl
      have LEN2 := Lib.hid (fun w' (h : Below X.heap.size X w') => ru_len T t w' (HX.out.1.next h).is)
      rw [HLL.out] at LEN2
      clear h1 h2 h3 h4 h5 h6 h7 h8 h9 h10 hD2 c0 c1 hB1 i1 i2 i3 i4 i5 i6 hdl hmm
      go_upto_region 24 with (fail)
      clear cP cN cS fR cR cM
      have KR : Hid (∀ w', Below (X.heap.size) X w' → (w'.cell? ⟨w2.heap.size + 1, 0, none⟩ = some (.int .i64 (l : Int)) ∧ w'.cell? ⟨w2.heap.size, 0, none⟩ = some (.pointer (some ⟨T, 0, none⟩)) ∧ w'.cell? ⟨W.heap.size, 0, none⟩ = some (.int .i64 (l : Int)) ∧ w'.cell? ⟨w.heap.size, 0, none⟩ = some (.int .i64 sm)) ∧ Below (X.heap.size) X w') := fun w' hb => ⟨⟨(HX.out.2.2.1.next hb).get 0 rfl, (HX.out.2.1.next hb).get 0 rfl, (HX.out.2.2.2.2.2.2.2.1.next hb).get 0 rfl, (HX.out.2.2.2.1.next hb).get 0 rfl⟩, hb⟩
      refine wp_region_noPanic ?_
      refine wp_region_Z [12] (fun w' => (w'.cell? ⟨w2.heap.size + 1, 0, none⟩ = some (.int .i64 (l : Int)) ∧ w'.cell? ⟨w2.heap.size, 0, none⟩ = some (.pointer (some ⟨T, 0, none⟩)) ∧ w'.cell? ⟨W.heap.size, 0, none⟩ = some (.int .i64 (l : Int)) ∧ w'.cell? ⟨w.heap.size, 0, none⟩ = some (.int .i64 sm)) ∧ Below (X.heap.size) X w') (by kernel_rfl) (KR.out _ (below_of_drew (Below.refl X.heap.size X))) (fun hH => ?_)
      have hbR := below_of_drew (Below.refl X.heap.size X)
      first | (refine wpAnyZ_take (i := 0) (v := undef) rfl ?_ ?_ ?_ ?_ (fun _ _ _ h => h) ?_ ?_ ?_; kernel_rfl; kernel_rfl; kernel_rfl; kernel_rfl; exact Or.inr ⟨by rfl, rfl⟩; exact hH) | (refine wpAnyZ_take (i := 0) (v := ?_) rfl ?_ ?_ ?_ ?_ (fun _ _ _ h => h) ?_ ?_ ?_; rotate_left; kernel_rfl; kernel_rfl; kernel_rfl; kernel_rfl; (focus (refine Or.inl ⟨by rfl, ?_⟩; intro w' hSw; (try dsimp only at hSw); go_simp)); exact hH) | (refine wpAnyZ_take (i := 0) (v := ?_) rfl ?_ ?_ ?_ ?_ (fun _ _ _ h => h) ?_ ?_ ?_; rotate_left; kernel_rfl; kernel_rfl; kernel_rfl; kernel_rfl; (focus (refine Or.inl ⟨by rfl, ?_⟩; intro w' hSw; (try dsimp only at hSw); go_simp; with_reducible rfl)); exact hH)
      try simp only [Act.put, List.getElem_toArray, List.getElem_cons_succ, List.getElem_cons_zero, List.setIfInBounds_toArray, List.set_cons_zero, List.set_cons_succ]
      first | (refine wpAnyZ_take (i := 1) (v := undef) rfl ?_ ?_ ?_ ?_ (fun _ _ _ h => h) ?_ ?_ ?_; kernel_rfl; kernel_rfl; kernel_rfl; kernel_rfl; exact Or.inr ⟨by rfl, rfl⟩; exact hH) | (refine wpAnyZ_take (i := 1) (v := ?_) rfl ?_ ?_ ?_ ?_ (fun _ _ _ h => h) ?_ ?_ ?_; rotate_left; kernel_rfl; kernel_rfl; kernel_rfl; kernel_rfl; (focus (refine Or.inl ⟨by rfl, ?_⟩; intro w' hSw; (try dsimp only at hSw); go_simp)); exact hH) | (refine wpAnyZ_take (i := 1) (v := ?_) rfl ?_ ?_ ?_ ?_ (fun _ _ _ h => h) ?_ ?_ ?_; rotate_left; kernel_rfl; kernel_rfl; kernel_rfl; kernel_rfl; (focus (refine Or.inl ⟨by rfl, ?_⟩; intro w' hSw; (try dsimp only at hSw); go_simp; with_reducible rfl)); exact hH)
      try simp only [Act.put, List.getElem_toArray, List.getElem_cons_succ, List.getElem_cons_zero, List.setIfInBounds_toArray, List.set_cons_zero, List.set_cons_succ]
      refine wpAnyZ_ready (rs := [2]) (by kernel_rfl) (by simp) ?_
      refine (AllReadyZ.cons rfl (fun K hK => ?_) AllReadyZ.nil)
      go_simp
      with_reducible refine (LEN2.out _ hH.2).mono ?_
      rintro e w1 ⟨rfl, hbq1⟩
      have hz1 : Below X.heap.size X w1 := hH.2.trans hbq1
      have fz := (HX.out.2.2.2.2.1.next hz1).frozen 0
      have cz := (HX.out.2.2.2.2.1.next hz1).get 0 rfl
      clear hbq1
      have hH1 := KR.out _ hz1
      refine hK.out _ _ (fun _ => hH1) ?_
      clear hK K hH
      have hH := hH1
      clear hH1
      try simp only [Act.put, List.getElem_toArray, List.getElem_cons_succ, List.getElem_cons_zero, List.setIfInBounds_toArray, List.set_cons_zero, List.set_cons_succ]
      first | (refine wpAnyZ_take (i := 3) (v := undef) rfl ?_ ?_ ?_ ?_ (fun _ _ _ h => h) ?_ ?_ ?_; kernel_rfl; kernel_rfl; kernel_rfl; kernel_rfl; exact Or.inr ⟨by rfl, rfl⟩; exact hH) | (refine wpAnyZ_take (i := 3) (v := ?_) rfl ?_ ?_ ?_ ?_ (fun _ _ _ h => h) ?_ ?_ ?_; rotate_left; kernel_rfl; kernel_rfl; kernel_rfl; kernel_rfl; (focus (refine Or.inl ⟨by rfl, ?_⟩; intro w' hSw; (try dsimp only at hSw); go_simp)); exact hH) | (refine wpAnyZ_take (i := 3) (v := ?_) rfl ?_ ?_ ?_ ?_ (fun _ _ _ h => h) ?_ ?_ ?_; rotate_left; kernel_rfl; kernel_rfl; kernel_rfl; kernel_rfl; (focus (refine Or.inl ⟨by rfl, ?_⟩; intro w' hSw; (try dsimp only at hSw); go_simp; with_reducible rfl)); exact hH)
      try simp only [Act.put, List.getElem_toArray, List.getElem_cons_succ, List.getElem_cons_zero, List.setIfInBounds_toArray, List.set_cons_zero, List.set_cons_succ]
      first | (refine wpAnyZ_take (i := 4) (v := undef) rfl ?_ ?_ ?_ ?_ (fun _ _ _ h => h) ?_ ?_ ?_; kernel_rfl; kernel_rfl; kernel_rfl; kernel_rfl; exact Or.inr ⟨by rfl, rfl⟩; exact hH) | (refine wpAnyZ_take (i := 4) (v := ?_) rfl ?_ ?_ ?_ ?_ (fun _ _ _ h => h) ?_ ?_ ?_; rotate_left; kernel_rfl; kernel_rfl; kernel_rfl; kernel_rfl; (focus (refine Or.inl ⟨by rfl, ?_⟩; intro w' hSw; (try dsimp only at hSw); go_simp)); exact hH) | (refine wpAnyZ_take (i := 4) (v := ?_) rfl ?_ ?_ ?_ ?_ (fun _ _ _ h => h) ?_ ?_ ?_; rotate_left; kernel_rfl; kernel_rfl; kernel_rfl; kernel_rfl; (focus (refine Or.inl ⟨by rfl, ?_⟩; intro w' hSw; (try dsimp only at hSw); go_simp; with_reducible rfl)); exact hH)
      try simp only [Act.put, List.getElem_toArray, List.getElem_cons_succ, List.getElem_cons_zero, List.setIfInBounds_toArray, List.set_cons_zero, List.set_cons_succ]
      first | (refine wpAnyZ_take (i := 5) (v := undef) rfl ?_ ?_ ?_ ?_ (fun _ _ _ h => h) ?_ ?_ ?_; kernel_rfl; kernel_rfl; kernel_rfl; kernel_rfl; exact Or.inr ⟨by rfl, rfl⟩; exact hH) | (refine wpAnyZ_take (i := 5) (v := ?_) rfl ?_ ?_ ?_ ?_ (fun _ _ _ h => h) ?_ ?_ ?_; rotate_left; kernel_rfl; kernel_rfl; kernel_rfl; kernel_rfl; (focus (refine Or.inl ⟨by rfl, ?_⟩; intro w' hSw; (try dsimp only at hSw); go_simp)); exact hH) | (refine wpAnyZ_take (i := 5) (v := ?_) rfl ?_ ?_ ?_ ?_ (fun _ _ _ h => h) ?_ ?_ ?_; rotate_left; kernel_rfl; kernel_rfl; kernel_rfl; kernel_rfl; (focus (refine Or.inl ⟨by rfl, ?_⟩; intro w' hSw; (try dsimp only at hSw); go_simp; with_reducible rfl)); exact hH)
      try simp only [Act.put, List.getElem_toArray, List.getElem_cons_succ, List.getElem_cons_zero, List.setIfInBounds_toArray, List.set_cons_zero, List.set_cons_succ]
      first | (refine wpAnyZ_take (i := 6) (v := undef) rfl ?_ ?_ ?_ ?_ (fun _ _ _ h => h) ?_ ?_ ?_; kernel_rfl; kernel_rfl; kernel_rfl; kernel_rfl; exact Or.inr ⟨by rfl, rfl⟩; exact hH) | (refine wpAnyZ_take (i := 6) (v := ?_) rfl ?_ ?_ ?_ ?_ (fun _ _ _ h => h) ?_ ?_ ?_; rotate_left; kernel_rfl; kernel_rfl; kernel_rfl; kernel_rfl; (focus (refine Or.inl ⟨by rfl, ?_⟩; intro w' hSw; (try dsimp only at hSw); go_simp)); exact hH) | (refine wpAnyZ_take (i := 6) (v := ?_) rfl ?_ ?_ ?_ ?_ (fun _ _ _ h => h) ?_ ?_ ?_; rotate_left; kernel_rfl; kernel_rfl; kernel_rfl; kernel_rfl; (focus (refine Or.inl ⟨by rfl, ?_⟩; intro w' hSw; (try dsimp only at hSw); go_simp; with_reducible rfl)); exact hH)
      try simp only [Act.put, List.getElem_toArray, List.getElem_cons_succ, List.getElem_cons_zero, List.setIfInBounds_toArray, List.set_cons_zero, List.set_cons_succ]
      first | (refine wpAnyZ_take (i := 7) (v := undef) rfl ?_ ?_ ?_ ?_ (fun _ _ _ h => h) ?_ ?_ ?_; kernel_rfl; kernel_rfl; kernel_rfl; kernel_rfl; exact Or.inr ⟨by rfl, rfl⟩; exact hH) | (refine wpAnyZ_take (i := 7) (v := ?_) rfl ?_ ?_ ?_ ?_ (fun _ _ _ h => h) ?_ ?_ ?_; rotate_left; kernel_rfl; kernel_rfl; kernel_rfl; kernel_rfl; (focus (refine Or.inl ⟨by rfl, ?_⟩; intro w' hSw; (try dsimp only at hSw); go_simp)); exact hH) | (refine wpAnyZ_take (i := 7) (v := ?_) rfl ?_ ?_ ?_ ?_ (fun _ _ _ h => h) ?_ ?_ ?_; rotate_left; kernel_rfl; kernel_rfl; kernel_rfl; kernel_rfl; (focus (refine Or.inl ⟨by rfl, ?_⟩; intro w' hSw; (try dsimp only at hSw); go_simp; with_reducible rfl)); exact hH)
      try simp only [Act.put, List.getElem_toArray, List.getElem_cons_succ, List.getElem_cons_zero, List.setIfInBounds_toArray, List.set_cons_zero, List.set_cons_succ]
      first | (refine wpAnyZ_take (i := 8) (v := undef) rfl ?_ ?_ ?_ ?_ (fun _ _ _ h => h) ?_ ?_ ?_; kernel_rfl; kernel_rfl; kernel_rfl; kernel_rfl; exact Or.inr ⟨by rfl, rfl⟩; exact hH) | (refine wpAnyZ_take (i := 8) (v := ?_) rfl ?_ ?_ ?_ ?_ (fun _ _ _ h => h) ?_ ?_ ?_; rotate_left; kernel_rfl; kernel_rfl; kernel_rfl; kernel_rfl; (focus (refine Or.inl ⟨by rfl, ?_⟩; intro w' hSw; (try dsimp only at hSw); go_simp)); exact hH) | (refine wpAnyZ_take (i := 8) (v := ?_) rfl ?_ ?_ ?_ ?_ (fun _ _ _ h => h) ?_ ?_ ?_; rotate_left; kernel_rfl; kernel_rfl; kernel_rfl; kernel_rfl; (focus (refine Or.inl ⟨by rfl, ?_⟩; intro w' hSw; (try dsimp only at hSw); go_simp; with_reducible rfl)); exact hH)
      try simp only [Act.put, List.getElem_toArray, List.getElem_cons_succ, List.getElem_cons_zero, List.setIfInBounds_toArray, List.set_cons_zero, List.set_cons_succ]
      first | (refine wpAnyZ_take (i := 9) (v := undef) rfl ?_ ?_ ?_ ?_ (fun _ _ _ h => h) ?_ ?_ ?_; kernel_rfl; kernel_rfl; kernel_rfl; kernel_rfl; exact Or.inr ⟨by rfl, rfl⟩; exact hH) | (refine wpAnyZ_take (i := 9) (v := ?_) rfl ?_ ?_ ?_ ?_ (fun _ _ _ h => h) ?_ ?_ ?_; rotate_left; kernel_rfl; kernel_rfl; kernel_rfl; kernel_rfl; (focus (refine Or.inl ⟨by rfl, ?_⟩; intro w' hSw; (try dsimp only at hSw); go_simp)); exact hH) | (refine wpAnyZ_take (i := 9) (v := ?_) rfl ?_ ?_ ?_ ?_ (fun _ _ _ h => h) ?_ ?_ ?_; rotate_left; kernel_rfl; kernel_rfl; kernel_rfl; kernel_rfl; (focus (refine Or.inl ⟨by rfl, ?_⟩; intro w' hSw; (try dsimp only at hSw); go_simp; with_reducible rfl)); exact hH)
      try simp only [Act.put, List.getElem_toArray, List.getElem_cons_succ, List.getElem_cons_zero, List.setIfInBounds_toArray, List.set_cons_zero, List.set_cons_succ]
      first | (refine wpAnyZ_take (i := 10) (v := undef) rfl ?_ ?_ ?_ ?_ (fun _ _ _ h => h) ?_ ?_ ?_; kernel_rfl; kernel_rfl; kernel_rfl; kernel_rfl; exact Or.inr ⟨by rfl, rfl⟩; exact hH) | (refine wpAnyZ_take (i := 10) (v := ?_) rfl ?_ ?_ ?_ ?_ (fun _ _ _ h => h) ?_ ?_ ?_; rotate_left; kernel_rfl; kernel_rfl; kernel_rfl; kernel_rfl; (focus (refine Or.inl ⟨by rfl, ?_⟩; intro w' hSw; (try dsimp only at hSw); go_simp)); exact hH) | (refine wpAnyZ_take (i := 10) (v := ?_) rfl ?_ ?_ ?_ ?_ (fun _ _ _ h => h) ?_ ?_ ?_; rotate_left; kernel_rfl; kernel_rfl; kernel_rfl; kernel_rfl; (focus (refine Or.inl ⟨by rfl, ?_⟩; intro w' hSw; (try dsimp only at hSw); go_simp; with_reducible rfl)); exact hH)
      try simp only [Act.put, List.getElem_toArray, List.getElem_cons_succ, List.getElem_cons_zero, List.setIfInBounds_toArray, List.set_cons_zero, List.set_cons_succ]
      first | (refine wpAnyZ_take (i := 11) (v := undef) rfl ?_ ?_ ?_ ?_ (fun _ _ _ h => h) ?_ ?_ ?_; kernel_rfl; kernel_rfl; kernel_rfl; kernel_rfl; exact Or.inr ⟨by rfl, rfl⟩; exact hH) | (refine wpAnyZ_take (i := 11) (v := ?_) rfl ?_ ?_ ?_ ?_ (fun _ _ _ h => h) ?_ ?_ ?_; rotate_left; kernel_rfl; kernel_rfl; kernel_rfl; kernel_rfl; (focus (refine Or.inl ⟨by rfl, ?_⟩; intro w' hSw; (try dsimp only at hSw); go_simp)); exact hH) | (refine wpAnyZ_take (i := 11) (v := ?_) rfl ?_ ?_ ?_ ?_ (fun _ _ _ h => h) ?_ ?_ ?_; rotate_left; kernel_rfl; kernel_rfl; kernel_rfl; kernel_rfl; (focus (refine Or.inl ⟨by rfl, ?_⟩; intro w' hSw; (try dsimp only at hSw); go_simp; with_reducible rfl)); exact hH)
      try simp only [Act.put, List.getElem_toArray, List.getElem_cons_succ, List.getElem_cons_zero, List.setIfInBounds_toArray, List.set_cons_zero, List.set_cons_succ]
      refine wpAnyZ_ready (rs := [12]) (by kernel_rfl) (by simp) ?_
      refine (AllReadyZ.cons rfl (fun K hK => ?_) AllReadyZ.nil)
      go_simp
      refine hK.out _ _ (fun h => absurd (by simp) h) ?_
      clear hK K
      try simp only [Act.put, List.getElem_toArray, List.getElem_cons_succ, List.getElem_cons_zero, List.setIfInBounds_toArray, List.set_cons_zero, List.set_cons_succ]
      refine wpAnyZ_done (by kernel_rfl) ?_ _
      refine NoPanic.normal ?_
      skip
      have hv : ((l : Int) == if 0 < if (l : Int) < sm then (l : Int) else sm then if (l : Int) < sm then (l : Int) else sm else 0) = true := beq_iff_eq.2 (by have := HMM.out; repeat' split; all_goals omega)
      rw [hv]
      clear hv hH KR LEN2 fz cz
      have HZ1 := Lib.hid hz1
      clear hz1
      go_wp2
      all_goals
        have zz := HW1.out
        have zz1 := HSZ1.out
        have zz4 := HSZ.out
        have zz2 := HDL.out
        have zz3 := HX.out.2.2.2.2.2.2.1
        have hlX : W0.heap.size < X.heap.size := by have := HX.out.2.2.2.2.2.2.2.2; have := (Array.getElem?_eq_some_iff.1 HX.out.2.2.2.2.2.2.2.2).1; omega
        refine marks_ret (B := w.heap.size) [W1.heap.size, W0.heap.size] rfl (by
          intro D hd
          simp only [List.mem_cons, List.not_mem_nil, or_false] at hd
          rcases hd with rfl | rfl
          · exact ⟨by omega, (Below.heap_setCell _ _ _ _ (show W1.heap.size ≠ w.heap.size + 1 by omega)).trans ((HZ1.out.block _ (Array.getElem?_eq_some_iff.1 HX.out.2.2.2.2.2.2.2.2).1).trans HX.out.2.2.2.2.2.2.2.2)⟩
          · exact ⟨by omega, (Below.heap_setCell _ _ _ _ (show W0.heap.size ≠ w.heap.size + 1 by have := HSZ.out; omega)).trans ((HZ1.out.block _ hlX).trans HX.out.2.2.2.2.2.1)⟩) (by simp; omega) ?_
        intro w' hs
        have b4 := ((HX.out.2.2.2.2.1.next HZ1.out).put 0 (.bool true)).stays hs
        have n4 : w'.cell? ⟨w.heap.size + 1, 0, none⟩ = some (.bool true) := b4.get 0 rfl
        have b5 := below_stays ((((H0.out.2.2.1.trans (HB1.out.mono H0.out.2.2.1.size)).trans (HX.out.1.below.mono (by omega))).trans (HZ1.out.mono (by have := HSZ.out; omega))).setCell (p := ⟨w.heap.size + 1, 0, none⟩) (Nat.le_add_right _ 1) (.bool true)) hs (Nat.le_refl _)
        exact ⟨_, by simp [results, Try.results7, go_sem, n4]; try rfl, rfl, b5⟩

    case hstop2 =>
      rintro cd k X hk ⟨rfl, j, rfl, ⟨h1, h2, h3, h4, h5, h6, h7, h8⟩, h9, h10, h11⟩ hD2
      rw [HLL.out] at hk
      have hmm : (j : Int) = max 0 (min sm (l : Int)) := by omega
      refine wp_exit ?_
      have HX := Lib.hid (And.intro h1 (And.intro h3 (And.intro h4 (And.intro h5 (And.intro h6 (And.intro h7 (And.intro h8 (And.intro h9 hD2))))))))
      have HMM := Lib.hid hmm
      have cP := h3.get 0 rfl
      have cN := h4.get 0 rfl
      have cS := h5.get 0 rfl
      have fR := h6.frozen 0
      have cR := h6.get 0 rfl
      have cM := h9.get 0 rfl
      have LEN2 := Lib.hid (fun w' (h : Below X.heap.size X w') => ru_len T t w' (HX.out.1.next h).is)
      rw [HLL.out] at LEN2
      clear h1 h2 h3 h4 h5 h6 h7 h8 h9 h10 hD2 c0 c1 hB1 i1 i2 i3 i4 i5 i6 hdl hmm
      go_upto_region 24 with (fail)
      clear cP cN cS fR cR cM
      have KR : Hid (∀ w', Below (X.heap.size) X w' → (w'.cell? ⟨w2.heap.size + 1, 0, none⟩ = some (.int .i64 (l : Int)) ∧ w'.cell? ⟨w2.heap.size, 0, none⟩ = some (.pointer (some ⟨T, 0, none⟩)) ∧ w'.cell? ⟨W.heap.size, 0, none⟩ = some (.int .i64 (j : Int)) ∧ w'.cell? ⟨w.heap.size, 0, none⟩ = some (.int .i64 sm)) ∧ Below (X.heap.size) X w') := fun w' hb => ⟨⟨(HX.out.2.2.1.next hb).get 0 rfl, (HX.out.2.1.next hb).get 0 rfl, (HX.out.2.2.2.2.2.2.2.1.next hb).get 0 rfl, (HX.out.2.2.2.1.next hb).get 0 rfl⟩, hb⟩
      refine wp_region_noPanic ?_
      refine wp_region_Z [12] (fun w' => (w'.cell? ⟨w2.heap.size + 1, 0, none⟩ = some (.int .i64 (l : Int)) ∧ w'.cell? ⟨w2.heap.size, 0, none⟩ = some (.pointer (some ⟨T, 0, none⟩)) ∧ w'.cell? ⟨W.heap.size, 0, none⟩ = some (.int .i64 (j : Int)) ∧ w'.cell? ⟨w.heap.size, 0, none⟩ = some (.int .i64 sm)) ∧ Below (X.heap.size) X w') (by kernel_rfl) (KR.out _ (below_of_drew (Below.refl X.heap.size X))) (fun hH => ?_)
      have hbR := below_of_drew (Below.refl X.heap.size X)
      first | (refine wpAnyZ_take (i := 0) (v := undef) rfl ?_ ?_ ?_ ?_ (fun _ _ _ h => h) ?_ ?_ ?_; kernel_rfl; kernel_rfl; kernel_rfl; kernel_rfl; exact Or.inr ⟨by rfl, rfl⟩; exact hH) | (refine wpAnyZ_take (i := 0) (v := ?_) rfl ?_ ?_ ?_ ?_ (fun _ _ _ h => h) ?_ ?_ ?_; rotate_left; kernel_rfl; kernel_rfl; kernel_rfl; kernel_rfl; (focus (refine Or.inl ⟨by rfl, ?_⟩; intro w' hSw; (try dsimp only at hSw); go_simp)); exact hH) | (refine wpAnyZ_take (i := 0) (v := ?_) rfl ?_ ?_ ?_ ?_ (fun _ _ _ h => h) ?_ ?_ ?_; rotate_left; kernel_rfl; kernel_rfl; kernel_rfl; kernel_rfl; (focus (refine Or.inl ⟨by rfl, ?_⟩; intro w' hSw; (try dsimp only at hSw); go_simp; with_reducible rfl)); exact hH)
      try simp only [Act.put, List.getElem_toArray, List.getElem_cons_succ, List.getElem_cons_zero, List.setIfInBounds_toArray, List.set_cons_zero, List.set_cons_succ]
      first | (refine wpAnyZ_take (i := 1) (v := undef) rfl ?_ ?_ ?_ ?_ (fun _ _ _ h => h) ?_ ?_ ?_; kernel_rfl; kernel_rfl; kernel_rfl; kernel_rfl; exact Or.inr ⟨by rfl, rfl⟩; exact hH) | (refine wpAnyZ_take (i := 1) (v := ?_) rfl ?_ ?_ ?_ ?_ (fun _ _ _ h => h) ?_ ?_ ?_; rotate_left; kernel_rfl; kernel_rfl; kernel_rfl; kernel_rfl; (focus (refine Or.inl ⟨by rfl, ?_⟩; intro w' hSw; (try dsimp only at hSw); go_simp)); exact hH) | (refine wpAnyZ_take (i := 1) (v := ?_) rfl ?_ ?_ ?_ ?_ (fun _ _ _ h => h) ?_ ?_ ?_; rotate_left; kernel_rfl; kernel_rfl; kernel_rfl; kernel_rfl; (focus (refine Or.inl ⟨by rfl, ?_⟩; intro w' hSw; (try dsimp only at hSw); go_simp; with_reducible rfl)); exact hH)
      try simp only [Act.put, List.getElem_toArray, List.getElem_cons_succ, List.getElem_cons_zero, List.setIfInBounds_toArray, List.set_cons_zero, List.set_cons_succ]
      refine wpAnyZ_ready (rs := [2]) (by kernel_rfl) (by simp) ?_
      refine (AllReadyZ.cons rfl (fun K hK => ?_) AllReadyZ.nil)
      go_simp
      with_reducible refine (LEN2.out _ hH.2).mono ?_
      rintro e w3 ⟨rfl, hbq3⟩
      have hz3 : Below X.heap.size X w3 := hH.2.trans hbq3
      have fz := (HX.out.2.2.2.2.1.next hz3).frozen 0
      have cz := (HX.out.2.2.2.2.1.next hz3).get 0 rfl
      clear hbq3
      have hH3 := KR.out _ hz3
      refine hK.out _ _ (fun _ => hH3) ?_
      clear hK K hH
      have hH := hH3
      clear hH3
      try simp only [Act.put, List.getElem_toArray, List.getElem_cons_succ, List.getElem_cons_zero, List.setIfInBounds_toArray, List.set_cons_zero, List.set_cons_succ]
      first | (refine wpAnyZ_take (i := 3) (v := undef) rfl ?_ ?_ ?_ ?_ (fun _ _ _ h => h) ?_ ?_ ?_; kernel_rfl; kernel_rfl; kernel_rfl; kernel_rfl; exact Or.inr ⟨by rfl, rfl⟩; exact hH) | (refine wpAnyZ_take (i := 3) (v := ?_) rfl ?_ ?_ ?_ ?_ (fun _ _ _ h => h) ?_ ?_ ?_; rotate_left; kernel_rfl; kernel_rfl; kernel_rfl; kernel_rfl; (focus (refine Or.inl ⟨by rfl, ?_⟩; intro w' hSw; (try dsimp only at hSw); go_simp)); exact hH) | (refine wpAnyZ_take (i := 3) (v := ?_) rfl ?_ ?_ ?_ ?_ (fun _ _ _ h => h) ?_ ?_ ?_; rotate_left; kernel_rfl; kernel_rfl; kernel_rfl; kernel_rfl; (focus (refine Or.inl ⟨by rfl, ?_⟩; intro w' hSw; (try dsimp only at hSw); go_simp; with_reducible rfl)); exact hH)
      try simp only [Act.put, List.getElem_toArray, List.getElem_cons_succ, List.getElem_cons_zero, List.setIfInBounds_toArray, List.set_cons_zero, List.set_cons_succ]
      first | (refine wpAnyZ_take (i := 4) (v := undef) rfl ?_ ?_ ?_ ?_ (fun _ _ _ h => h) ?_ ?_ ?_; kernel_rfl; kernel_rfl; kernel_rfl; kernel_rfl; exact Or.inr ⟨by rfl, rfl⟩; exact hH) | (refine wpAnyZ_take (i := 4) (v := ?_) rfl ?_ ?_ ?_ ?_ (fun _ _ _ h => h) ?_ ?_ ?_; rotate_left; kernel_rfl; kernel_rfl; kernel_rfl; kernel_rfl; (focus (refine Or.inl ⟨by rfl, ?_⟩; intro w' hSw; (try dsimp only at hSw); go_simp)); exact hH) | (refine wpAnyZ_take (i := 4) (v := ?_) rfl ?_ ?_ ?_ ?_ (fun _ _ _ h => h) ?_ ?_ ?_; rotate_left; kernel_rfl; kernel_rfl; kernel_rfl; kernel_rfl; (focus (refine Or.inl ⟨by rfl, ?_⟩; intro w' hSw; (try dsimp only at hSw); go_simp; with_reducible rfl)); exact hH)
      try simp only [Act.put, List.getElem_toArray, List.getElem_cons_succ, List.getElem_cons_zero, List.setIfInBounds_toArray, List.set_cons_zero, List.set_cons_succ]
      first | (refine wpAnyZ_take (i := 5) (v := undef) rfl ?_ ?_ ?_ ?_ (fun _ _ _ h => h) ?_ ?_ ?_; kernel_rfl; kernel_rfl; kernel_rfl; kernel_rfl; exact Or.inr ⟨by rfl, rfl⟩; exact hH) | (refine wpAnyZ_take (i := 5) (v := ?_) rfl ?_ ?_ ?_ ?_ (fun _ _ _ h => h) ?_ ?_ ?_; rotate_left; kernel_rfl; kernel_rfl; kernel_rfl; kernel_rfl; (focus (refine Or.inl ⟨by rfl, ?_⟩; intro w' hSw; (try dsimp only at hSw); go_simp)); exact hH) | (refine wpAnyZ_take (i := 5) (v := ?_) rfl ?_ ?_ ?_ ?_ (fun _ _ _ h => h) ?_ ?_ ?_; rotate_left; kernel_rfl; kernel_rfl; kernel_rfl; kernel_rfl; (focus (refine Or.inl ⟨by rfl, ?_⟩; intro w' hSw; (try dsimp only at hSw); go_simp; with_reducible rfl)); exact hH)
      try simp only [Act.put, List.getElem_toArray, List.getElem_cons_succ, List.getElem_cons_zero, List.setIfInBounds_toArray, List.set_cons_zero, List.set_cons_succ]
      first | (refine wpAnyZ_take (i := 6) (v := undef) rfl ?_ ?_ ?_ ?_ (fun _ _ _ h => h) ?_ ?_ ?_; kernel_rfl; kernel_rfl; kernel_rfl; kernel_rfl; exact Or.inr ⟨by rfl, rfl⟩; exact hH) | (refine wpAnyZ_take (i := 6) (v := ?_) rfl ?_ ?_ ?_ ?_ (fun _ _ _ h => h) ?_ ?_ ?_; rotate_left; kernel_rfl; kernel_rfl; kernel_rfl; kernel_rfl; (focus (refine Or.inl ⟨by rfl, ?_⟩; intro w' hSw; (try dsimp only at hSw); go_simp)); exact hH) | (refine wpAnyZ_take (i := 6) (v := ?_) rfl ?_ ?_ ?_ ?_ (fun _ _ _ h => h) ?_ ?_ ?_; rotate_left; kernel_rfl; kernel_rfl; kernel_rfl; kernel_rfl; (focus (refine Or.inl ⟨by rfl, ?_⟩; intro w' hSw; (try dsimp only at hSw); go_simp; with_reducible rfl)); exact hH)
      try simp only [Act.put, List.getElem_toArray, List.getElem_cons_succ, List.getElem_cons_zero, List.setIfInBounds_toArray, List.set_cons_zero, List.set_cons_succ]
      first | (refine wpAnyZ_take (i := 7) (v := undef) rfl ?_ ?_ ?_ ?_ (fun _ _ _ h => h) ?_ ?_ ?_; kernel_rfl; kernel_rfl; kernel_rfl; kernel_rfl; exact Or.inr ⟨by rfl, rfl⟩; exact hH) | (refine wpAnyZ_take (i := 7) (v := ?_) rfl ?_ ?_ ?_ ?_ (fun _ _ _ h => h) ?_ ?_ ?_; rotate_left; kernel_rfl; kernel_rfl; kernel_rfl; kernel_rfl; (focus (refine Or.inl ⟨by rfl, ?_⟩; intro w' hSw; (try dsimp only at hSw); go_simp)); exact hH) | (refine wpAnyZ_take (i := 7) (v := ?_) rfl ?_ ?_ ?_ ?_ (fun _ _ _ h => h) ?_ ?_ ?_; rotate_left; kernel_rfl; kernel_rfl; kernel_rfl; kernel_rfl; (focus (refine Or.inl ⟨by rfl, ?_⟩; intro w' hSw; (try dsimp only at hSw); go_simp; with_reducible rfl)); exact hH)
      try simp only [Act.put, List.getElem_toArray, List.getElem_cons_succ, List.getElem_cons_zero, List.setIfInBounds_toArray, List.set_cons_zero, List.set_cons_succ]
      first | (refine wpAnyZ_take (i := 8) (v := undef) rfl ?_ ?_ ?_ ?_ (fun _ _ _ h => h) ?_ ?_ ?_; kernel_rfl; kernel_rfl; kernel_rfl; kernel_rfl; exact Or.inr ⟨by rfl, rfl⟩; exact hH) | (refine wpAnyZ_take (i := 8) (v := ?_) rfl ?_ ?_ ?_ ?_ (fun _ _ _ h => h) ?_ ?_ ?_; rotate_left; kernel_rfl; kernel_rfl; kernel_rfl; kernel_rfl; (focus (refine Or.inl ⟨by rfl, ?_⟩; intro w' hSw; (try dsimp only at hSw); go_simp)); exact hH) | (refine wpAnyZ_take (i := 8) (v := ?_) rfl ?_ ?_ ?_ ?_ (fun _ _ _ h => h) ?_ ?_ ?_; rotate_left; kernel_rfl; kernel_rfl; kernel_rfl; kernel_rfl; (focus (refine Or.inl ⟨by rfl, ?_⟩; intro w' hSw; (try dsimp only at hSw); go_simp; with_reducible rfl)); exact hH)
      try simp only [Act.put, List.getElem_toArray, List.getElem_cons_succ, List.getElem_cons_zero, List.setIfInBounds_toArray, List.set_cons_zero, List.set_cons_succ]
      first | (refine wpAnyZ_take (i := 9) (v := undef) rfl ?_ ?_ ?_ ?_ (fun _ _ _ h => h) ?_ ?_ ?_; kernel_rfl; kernel_rfl; kernel_rfl; kernel_rfl; exact Or.inr ⟨by rfl, rfl⟩; exact hH) | (refine wpAnyZ_take (i := 9) (v := ?_) rfl ?_ ?_ ?_ ?_ (fun _ _ _ h => h) ?_ ?_ ?_; rotate_left; kernel_rfl; kernel_rfl; kernel_rfl; kernel_rfl; (focus (refine Or.inl ⟨by rfl, ?_⟩; intro w' hSw; (try dsimp only at hSw); go_simp)); exact hH) | (refine wpAnyZ_take (i := 9) (v := ?_) rfl ?_ ?_ ?_ ?_ (fun _ _ _ h => h) ?_ ?_ ?_; rotate_left; kernel_rfl; kernel_rfl; kernel_rfl; kernel_rfl; (focus (refine Or.inl ⟨by rfl, ?_⟩; intro w' hSw; (try dsimp only at hSw); go_simp; with_reducible rfl)); exact hH)
      try simp only [Act.put, List.getElem_toArray, List.getElem_cons_succ, List.getElem_cons_zero, List.setIfInBounds_toArray, List.set_cons_zero, List.set_cons_succ]
      first | (refine wpAnyZ_take (i := 10) (v := undef) rfl ?_ ?_ ?_ ?_ (fun _ _ _ h => h) ?_ ?_ ?_; kernel_rfl; kernel_rfl; kernel_rfl; kernel_rfl; exact Or.inr ⟨by rfl, rfl⟩; exact hH) | (refine wpAnyZ_take (i := 10) (v := ?_) rfl ?_ ?_ ?_ ?_ (fun _ _ _ h => h) ?_ ?_ ?_; rotate_left; kernel_rfl; kernel_rfl; kernel_rfl; kernel_rfl; (focus (refine Or.inl ⟨by rfl, ?_⟩; intro w' hSw; (try dsimp only at hSw); go_simp)); exact hH) | (refine wpAnyZ_take (i := 10) (v := ?_) rfl ?_ ?_ ?_ ?_ (fun _ _ _ h => h) ?_ ?_ ?_; rotate_left; kernel_rfl; kernel_rfl; kernel_rfl; kernel_rfl; (focus (refine Or.inl ⟨by rfl, ?_⟩; intro w' hSw; (try dsimp only at hSw); go_simp; with_reducible rfl)); exact hH)
      try simp only [Act.put, List.getElem_toArray, List.getElem_cons_succ, List.getElem_cons_zero, List.setIfInBounds_toArray, List.set_cons_zero, List.set_cons_succ]
      first | (refine wpAnyZ_take (i := 11) (v := undef) rfl ?_ ?_ ?_ ?_ (fun _ _ _ h => h) ?_ ?_ ?_; kernel_rfl; kernel_rfl; kernel_rfl; kernel_rfl; exact Or.inr ⟨by rfl, rfl⟩; exact hH) | (refine wpAnyZ_take (i := 11) (v := ?_) rfl ?_ ?_ ?_ ?_ (fun _ _ _ h => h) ?_ ?_ ?_; rotate_left; kernel_rfl; kernel_rfl; kernel_rfl; kernel_rfl; (focus (refine Or.inl ⟨by rfl, ?_⟩; intro w' hSw; (try dsimp only at hSw); go_simp)); exact hH) | (refine wpAnyZ_take (i := 11) (v := ?_) rfl ?_ ?_ ?_ ?_ (fun _ _ _ h => h) ?_ ?_ ?_; rotate_left; kernel_rfl; kernel_rfl; kernel_rfl; kernel_rfl; (focus (refine Or.inl ⟨by rfl, ?_⟩; intro w' hSw; (try dsimp only at hSw); go_simp; with_reducible rfl)); exact hH)
      try simp only [Act.put, List.getElem_toArray, List.getElem_cons_succ, List.getElem_cons_zero, List.setIfInBounds_toArray, List.set_cons_zero, List.set_cons_succ]
      refine wpAnyZ_ready (rs := [12]) (by kernel_rfl) (by simp) ?_
      refine (AllReadyZ.cons rfl (fun K hK => ?_) AllReadyZ.nil)
      go_simp
      refine hK.out _ _ (fun h => absurd (by simp) h) ?_
      clear hK K
      try simp only [Act.put, List.getElem_toArray, List.getElem_cons_succ, List.getElem_cons_zero, List.setIfInBounds_toArray, List.set_cons_zero, List.set_cons_succ]
      refine wpAnyZ_done (by kernel_rfl) ?_ _
      refine NoPanic.normal ?_
      skip
      have hv : ((j : Int) == if 0 < if (l : Int) < sm then (l : Int) else sm then if (l : Int) < sm then (l : Int) else sm else 0) = true := beq_iff_eq.2 (by have := HMM.out; repeat' split; all_goals omega)
      rw [hv]
      clear hv hH KR LEN2 fz cz
      have HZ1 := Lib.hid hz3
      clear hz3
      go_wp2
      all_goals
        have zz := HW1.out
        have zz1 := HSZ1.out
        have zz4 := HSZ.out
        have zz2 := HDL.out
        have zz3 := HX.out.2.2.2.2.2.2.1
        have hlX : W0.heap.size < X.heap.size := by have := HX.out.2.2.2.2.2.2.2.2; have := (Array.getElem?_eq_some_iff.1 HX.out.2.2.2.2.2.2.2.2).1; omega
        refine marks_ret (B := w.heap.size) [W1.heap.size, W0.heap.size] rfl (by
          intro D hd
          simp only [List.mem_cons, List.not_mem_nil, or_false] at hd
          rcases hd with rfl | rfl
          · exact ⟨by omega, (Below.heap_setCell _ _ _ _ (show W1.heap.size ≠ w.heap.size + 1 by omega)).trans ((HZ1.out.block _ (Array.getElem?_eq_some_iff.1 HX.out.2.2.2.2.2.2.2.2).1).trans HX.out.2.2.2.2.2.2.2.2)⟩
          · exact ⟨by omega, (Below.heap_setCell _ _ _ _ (show W0.heap.size ≠ w.heap.size + 1 by have := HSZ.out; omega)).trans ((HZ1.out.block _ hlX).trans HX.out.2.2.2.2.2.1)⟩) (by simp; omega) ?_
        intro w' hs
        have b4 := ((HX.out.2.2.2.2.1.next HZ1.out).put 0 (.bool true)).stays hs
        have n4 : w'.cell? ⟨w.heap.size + 1, 0, none⟩ = some (.bool true) := b4.get 0 rfl
        have b5 := below_stays ((((H0.out.2.2.1.trans (HB1.out.mono H0.out.2.2.1.size)).trans (HX.out.1.below.mono (by omega))).trans (HZ1.out.mono (by have := HSZ.out; omega))).setCell (p := ⟨w.heap.size + 1, 0, none⟩) (Nat.le_add_right _ 1) (.bool true)) hs (Nat.le_refl _)
        exact ⟨_, by simp [results, Try.results7, go_sem, n4]; try rfl, rfl, b5⟩


end Go.Proofs.Ytjlnbpomncglcaa

