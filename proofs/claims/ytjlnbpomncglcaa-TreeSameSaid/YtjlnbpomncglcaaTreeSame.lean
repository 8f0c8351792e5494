/-
  TreeSame holds.
-/
import Derived.Test.YtjlnbpomncglcaaProg
import Derived.Test.YtjlnbpomncglcaaRBTwo
namespace Go.Proofs.Ytjlnbpomncglcaa
set_option linter.unusedVariables false
set_option linter.unusedSimpArgs false
set_option maxRecDepth 100000
open Go.RowKit Go.Shelf

attribute [local go_sem] Oper.semAt_some

theorem TrToU.sets {w0 w w' : World} {T B : Nat} {t t' : RB Int} (k : TrToU w w' T t t') (h : TrAt w0 w T t) (ho : Out B T t) : Fr (fun j => w0.heap.size ≤ j ∧ j ≠ B) w w' :=
  k.fr.mono fun j _ hj => by
    rcases hj with rfl | hj
    · exact ⟨h.ge, Ne.symm ho.1⟩
    · exact ⟨h.bl _ hj, fun e => ho.2 (e ▸ hj)⟩
/-- The value that comes with a key. -/
abbrev ownF (k : RK) : Int := IntKind.u64.wrap (IntKind.u64.wrap k.2 + k.1)
set_option maxHeartbeats 16000000 in
theorem treeSame_walk (w : World) (A : Option Addr) (n c : Nat) (N : Nat → Int) (fN : ∀ i, i < n → (Lit.int .u64 (N i)).wf = true) (I : Nat → Int) (fI : ∀ i, i < n → (Lit.int .i64 (I i)).wf = true) (V : Nat → Int) (fV : ∀ i, i < n → (Lit.int .u64 (V i)).wf = true) (D : Nat → Bool) (hl : n ≤ c) (hm : c ≤ maxLen)
    (hA : 0 < n → ∃ b off, A = some ⟨b, off, none⟩ ∧ b < w.heap.size) (hN : ∀ b off, A = some ⟨b, off, none⟩ → ∀ i, i < n → w.cell? ⟨b, off + (i * 4 + 0), none⟩ = some (.int .u64 (N i))) (hI : ∀ b off, A = some ⟨b, off, none⟩ → ∀ i, i < n → w.cell? ⟨b, off + (i * 4 + 1), none⟩ = some (.int .i64 (I i)))
    (hV : ∀ b off, A = some ⟨b, off, none⟩ → ∀ i, i < n → w.cell? ⟨b, off + (i * 4 + 2), none⟩ = some (.int .u64 (V i))) (hD : ∀ b off, A = some ⟨b, off, none⟩ → ∀ i, i < n → w.cell? ⟨b, off + (i * 4 + 3), none⟩ = some (.bool (D i))) (a1 : Int) (fa1 : (Lit.int .u64 a1).wf = true) (a2 : Int) (fa2 : (Lit.int .i64 a2).wf = true) (av : Int) (fav : (Lit.int .u64 av).wf = true) (ad : Bool) (nm : Int) (fnm : (Lit.int .u64 nm).wf = true) :
    Calls Try.prog 8 #[.slice A n c, .agg #[.int .u64 a1, .int .i64 a2, .int .u64 av, .bool ad], .int .u64 nm] w fun e w' => e = .returned (.bool true) ∧ Below w.heap.size w w' := by
  have HA := Lib.hid (racts_of hA hN hI hV hD)
  clear hA hN hI hV hD fN fI fV hl hm fa1 fa2 fav fnm
  obtain ⟨w0, hw0⟩ : ∃ x, (w.alloc (.cells #[.int .u64 a1, .int .i64 a2, .int .u64 av, .bool ad] 33)).alloc (.cells #[.bool false] 4) = x := ⟨_, rfl⟩
  have bX : Blk w0 w.heap.size 33 #[.int .u64 a1, .int .i64 a2, .int .u64 av, .bool ad] := by rw [← hw0]; exact (Blk.new w _ _).alloc _
  have bR : Blk w0 (w.heap.size + 1) 4 #[.bool false] := by rw [← hw0]; exact Blk.new_at (by simp)
  have hb0 : Below w.heap.size w w0 := by rw [← hw0]; go_grown
  have hz0 : w0.heap.size = w.heap.size + 2 := by rw [← hw0]; simp
  have H0 := Lib.hid (And.intro bX (And.intro bR (And.intro hb0 hz0)))
  have HEQ := Lib.hid hw0
  clear bX bR hb0 hz0 hw0
  by_cases hn : 100 < n
  · have d2 : decide (100 < n) = true := decide_eq_true hn
    have d1 : decide ((100 : Int) < (n : Int)) = true := decide_eq_true (by omega)
    clear hn
    refine calls_of_wp_marks Try.func8 rfl ?_
    simp only [Try.ntmps8, List.size_toArray, List.length_cons, List.length_nil, Nat.reduceAdd, Nat.reduceSub, Array.replicate_succ, Array.replicate_zero, List.push_toArray, List.append_toArray, List.nil_append, List.cons_append]
    go_wp2_with fail
    rw [HEQ.out]
    with_reducible refine (awake_true w0).mono ?_
    rintro e wa ⟨rfl, hb1⟩
    have bR := H0.out.2.1.next hb1
    have HB1 := Lib.hid (And.intro (H0.out.2.2.1.trans (hb1.mono H0.out.2.2.1.size)) bR)
    have x4 := bR.get 0 rfl
    have f4 := bR.frozen 0
    clear hb1 bR
    go_wp2
    refine marks_ret (B := w.heap.size) [] rfl (by intro D hd; cases hd) (by simp) ?_
    intro w' hs
    have b4 := (HB1.out.2.put 0 (.bool true)).stays hs
    have n4 : w'.cell? ⟨w.heap.size + 1, 0, none⟩ = some (.bool true) := b4.get 0 rfl
    have b5 := below_stays (HB1.out.1.setCell (p := ⟨w.heap.size + 1, 0, none⟩) (Nat.le_add_right _ 1) (.bool true)) hs (Nat.le_refl _)
    exact ⟨_, by simp [results, Try.results8, go_sem, n4]; try rfl, rfl, b5⟩
  have d2 : decide (100 < n) = false := decide_eq_false hn
  have d1 : decide ((100 : Int) < (n : Int)) = false := decide_eq_false (by omega)
  have HN := Lib.hid (show n ≤ 100 by omega)
  clear hn
  refine calls_of_wp_marks Try.func8 rfl ?_
  simp only [Try.ntmps8, List.size_toArray, List.length_cons, List.length_nil, Nat.reduceAdd, Nat.reduceSub, Array.replicate_succ, Array.replicate_zero, List.push_toArray, List.append_toArray, List.nil_append, List.cons_append]
  go_wp2_with fail
  rw [HEQ.out]
  with_reducible refine (awake_true w0).mono ?_
  rintro e wa ⟨rfl, hb1⟩
  have HB1 := Lib.hid hb1
  clear hb1
  go_wp2_with fail
  with_reducible refine (ru_numbers wa).mono ?_
  rintro e wb ⟨T1, rfl, g1, g2, g3⟩
  have HT1 : Hid (TrAt wa wb T1 .nil) := ⟨g1, g2, (fun x hx => by cases hx), g3⟩
  clear g1 g2 g3
  go_wp2_with fail
  with_reducible refine (ru_numbers wb).mono ?_
  rintro e wc ⟨T2, rfl, g1, g2, g3⟩
  have htw : Two wa wc T1 .nil T2 .nil := ⟨HT1.out.next g3, ⟨g1, Nat.le_trans HT1.out.below.size g2, (fun x hx => by cases hx), below_next HT1.out.below g3⟩, fun e => by have := HT1.out.is.blk.lt; omega, (fun hx => by cases hx), (fun hx => by cases hx), fun x hx => by cases hx⟩
  have HTW0 := Lib.hid htw
  clear htw g1 g2 g3
  go_upto_region 8 with (fail)
  have hbd : Below wc.heap.size wc (wc.alloc (.cells #[.pointer (some ⟨T2, 0, none⟩)] 24)) := by go_grown
  have b8 := Blk.new wc 24 #[.pointer (some ⟨T2, 0, none⟩)]
  have ho : Out wc.heap.size T1 (.nil : RB Int) ∧ Out wc.heap.size T2 (.nil : RB Int) := ⟨⟨fun e => by have := HTW0.out.a.is.blk.lt; omega, fun hx => by cases hx⟩, ⟨fun e => by have := HTW0.out.b.is.blk.lt; omega, fun hx => by cases hx⟩⟩
  generalize wc.alloc (.cells #[.pointer (some ⟨T2, 0, none⟩)] 24) = wd at hbd b8 ⊢
  have HD0 := Lib.hid (And.intro (HTW0.out.next hbd) (And.intro b8 ho))
  have HW1 : Hid (w.heap.size + 2 ≤ wa.heap.size ∧ wa.heap.size ≤ wc.heap.size ∧ wc.heap.size < wd.heap.size) := ⟨by have := H0.out.2.2.2; have := HB1.out.size; omega, HTW0.out.a.below.size, b8.lt⟩
  have HBXA := Lib.hid (H0.out.1.next HB1.out)
  clear hbd b8 ho
  obtain ⟨K, hK⟩ : ∃ K : Nat → RK, K = fun i => (N i, I i) := ⟨_, rfl⟩
  have HK := Lib.hid hK
  clear hK
  go_wp2
  go_loopg [9] n (fun gk ix wr => ∃ (i : Nat) (t1 t2 : RB Int), i + gk = n ∧ ix = .int .i64 i ∧ Two wa wr T1 t1 T2 t2 ∧ t1.items = putsRow K ownF i ∧ t2.items = putsRow (fun i => K (n - 1 - i)) ownF i ∧ Blk wr wc.heap.size 24 #[.pointer (some ⟨T2, 0, none⟩)] ∧ Out wc.heap.size T1 t1 ∧ Out wc.heap.size T2 t2)
  case atStart => exact ⟨0, .nil, .nil, by omega, rfl, HD0.out.1, rfl, rfl, HD0.out.2.1, HD0.out.2.2.1, HD0.out.2.2.2⟩
  case round =>
    obtain ⟨i, t1, t2, hi, rfl, htw, hi1, hi2, hb8, ho1, ho2⟩ := hrel
    have HTWR := Lib.hid (And.intro htw (And.intro hi1 hi2))
    have HB8 := Lib.hid hb8
    have HOU := Lib.hid (And.intro ho1 ho2)
    clear htw hi1 hi2 hb8 ho1 ho2
    obtain ⟨wo, rfl⟩ : ∃ x : World, x = wr := ⟨_, rfl⟩
    by_cases hlt : i < n
    · obtain ⟨gm, rfl⟩ : ∃ gm, gk = gm + 1 := ⟨gk - 1, by omega⟩
      have HAA := (HA.out.next H0.out.2.2.1).next HB1.out
      obtain ⟨bA, off, rfl, hbA⟩ := HAA.addr (by omega)
      have HAW := HAA.next (HTWR.out.1.a.below)
      obtain ⟨c0, c1, -, -⟩ := HAW.cells bA off rfl i hlt
      obtain ⟨e0, e1, -, -⟩ := HAW.cells bA off rfl (n - 1 - i) (by omega)
      have HCE := Lib.hid (And.intro e0 (And.intro e1 hbA))
      have hl1 : t1.items.length ≤ 1000000 := by rw [HTWR.out.2.1]; have := puts_len K ownF i; have := HN.out; omega
      have hl2 : t2.items.length ≤ 1000000 := by rw [HTWR.out.2.2]; have := puts_len (fun i => K (n - 1 - i)) ownF i; have := HN.out; omega
      obtain ⟨m, hm⟩ : ∃ m, n - 1 - i = m := ⟨_, rfl⟩
      rw [hm] at HCE
      have p0 : (0 : Int) ≤ (i : Int) := by omega
      have p1 : (i : Int) < ((i + (gm + 1) : Nat) : Int) := by omega
      have p1' : (i : Int) < (n : Int) := by omega
      have p2 : (0 : Int) ≤ (m : Int) := by omega
      have p3 : (m : Int) < (n : Int) := by omega
      have e5 : wrap64 ((i : Int) + 1) = ((i + 1 : Nat) : Int) := by have := HN.out; unfold wrap64; omega
      have e6 : wrap64 ((n : Int) - 1) = (n : Int) - 1 := by have := HN.out; unfold wrap64; omega
      have e7 : wrap64 ((n : Int) - 1 - (i : Int)) = (m : Int) := by have := HN.out; unfold wrap64; omega
      have HM := Lib.hid hm
      clear HAA HAW e0 e1 hm
      have P1 := Lib.hid (ru_putAny T1 t1 (N i, I i) (ownF (N i, I i)) wo.drew (HTWR.out.1.next (below_of_drew (Below.refl _ _))).a.is hl1)
      go_upto_region 11 with (fail)
      go_still_tail 20, (by kernel_rfl)
      go_wp2_with fail
      with_reducible refine (P1.out).mono ?_
      rintro e w2 ⟨rfl, t1', hp1, hq1⟩
      have HP1 := Lib.hid (And.intro ((HTWR.out.1.next (below_of_drew (Below.refl _ _))).step hp1) (And.intro hq1 (And.intro (HOU.out.1.step hp1 HB8.out.lt) (HOU.out.1.blk hp1 (HB8.out.next (below_of_drew (Below.refl _ _)))))))
      have hlow : ∀ b, b < wa.heap.size → ∀ ty cs, Blk wo b ty cs → Blk w2 b ty cs := fun b hb ty cs h => (Out.of_low HTWR.out.1.a hb).blk hp1 (h.next (below_of_drew (Below.refl _ _)))
      clear hp1 hq1 P1
      have e0 : w2.cell? ⟨bA, off + m * 4, none⟩ = some (.int .u64 (N m)) := ((HP1.out.1.a.below.cell (p := ⟨bA, off + m * 4, none⟩) HCE.out.2.2).trans ((HTWR.out.1.a.below.cell (p := ⟨bA, off + m * 4, none⟩) HCE.out.2.2).symm.trans HCE.out.1))
      have e1 : w2.cell? ⟨bA, off + m * 4 + 1, none⟩ = some (.int .i64 (I m)) := ((HP1.out.1.a.below.cell (p := ⟨bA, off + m * 4 + 1, none⟩) HCE.out.2.2).trans ((HTWR.out.1.a.below.cell (p := ⟨bA, off + m * 4 + 1, none⟩) HCE.out.2.2).symm.trans HCE.out.2.1))
      have x8 := HP1.out.2.2.2.get 0 rfl
      have l8 := HP1.out.2.2.2.lt
      clear c0 c1 hlow
      go_upto_region 13 with (fail)
      have hb3 : Below w2.heap.size w2 (w2.alloc (.cells #[.int .u64 (N m), .int .i64 (I m)] 31)) := by go_grown
      have b3 := Blk.new w2 31 #[.int .u64 (N m), .int .i64 (I m)]
      generalize w2.heap.size = B3 at b3 ⊢
      generalize w2.alloc (.cells #[.int .u64 (N m), .int .i64 (I m)] 31) = w3 at hb3 b3 ⊢
      have HP2 := Lib.hid (And.intro (HP1.out.1.next hb3) (HP1.out.2.2.2.next hb3))
      have y0 := b3.get 0 rfl
      have y1 := b3.get 1 rfl
      have x8 := HP2.out.2.get 0 rfl
      have P2 := Lib.hid (ru_putAny T2 t2 (N m, I m) (ownF (N m, I m)) w3 HP2.out.1.b.is hl2)
      clear hb3 b3 e0 e1 l8
      go_wp2_with fail
      with_reducible refine (P2.out).mono ?_
      rintro e w4 ⟨rfl, t2', hp2, hq2⟩
      have HP3 := Lib.hid (And.intro ((HP2.out.1.symm.step hp2).symm) (And.intro hq2 (And.intro (HOU.out.2.step hp2 HP2.out.2.lt) (HOU.out.2.blk hp2 HP2.out.2))))
      clear hp2 hq2 P2 x8 y0 y1
      go_wp2
      go_roundg gm
      case rel => exact ⟨i + 1, t1', t2', by omega, by go_num, HP3.out.1, by rw [HP1.out.2.1, HTWR.out.2.1, HK.out]; rfl, by rw [HP3.out.2.1, HTWR.out.2.2]; show _ = rput (K (n - 1 - i)) (ownF (K (n - 1 - i))) _; rw [HM.out, HK.out], HP3.out.2.2.2, HP1.out.2.2.1, HP3.out.2.2.1⟩
      case measure => omega
    · obtain rfl : gk = 0 := by omega
      obtain rfl : i = n := by omega
      have hitm : t2.items = t1.items := by rw [HTWR.out.2.1, HTWR.out.2.2, puts_back]
      have hlen : t1.items.length ≤ 100 := by rw [HTWR.out.2.1]; exact Nat.le_trans (puts_len K ownF i) HN.out
      have HLB := Lib.hid hlen
      have hbx : Blk wo w.heap.size 33 #[.int .u64 a1, .int .i64 a2, .int .u64 av, .bool ad] := HBXA.out.below HTWR.out.1.a.below HBXA.out.lt
      have hbr : Blk wo (w.heap.size + 1) 4 #[.bool false] := (H0.out.2.1.next HB1.out).below HTWR.out.1.a.below (H0.out.2.1.next HB1.out).lt
      have HBXO := Lib.hid (And.intro hbx hbr)
      have z0 := hbx.get 0 rfl
      have z1 := hbx.get 1 rfl
      have HSZ1 : Hid (t1.size ≤ 1000000) := show _ ≤ _ by rw [← RB.size_items]; omega
      have HSZ2 : Hid (t2.size ≤ 1000000) := show _ ≤ _ by rw [← RB.size_items, hitm]; omega
      have HSZ4 : Hid (∀ t : RB Int, t.items = t1.items → t.size ≤ 1000000) := fun t e => by rw [← RB.size_items, e]; omega
      obtain ⟨l, hll⟩ : ∃ l, t1.items.length = l := ⟨_, rfl⟩
      have HLN1 := Lib.hid hll
      have HLN := HLN1
      have HLN2 : Hid (t2.items.length = l) := show _ = _ by rw [hitm]; exact hll
      have HITM := Lib.hid (And.intro hitm (show t1.items.length ≤ 1000000 by omega))
      have GET := Lib.hid (ru_get T1 t1 (a1, a2) wo HTWR.out.1.a.is)
      clear hitm hlen hbx hbr hll hlt hi d1 d2
      rcases hg : get (a1, a2) t1.items with _ | gx
      · rw [hg] at GET
        have HPE : Hid (putE (a1, a2) t1.items = 0 ∧ rput (a1, a2) av t1.items = ins (a1, a2) av t1.items ∧ (ins (a1, a2) av t1.items).length ≤ 1000000 ∧ delE (a1, a2) (ins (a1, a2) av t1.items) = 0 ∧ del (a1, a2) (ins (a1, a2) av t1.items) = t1.items) :=
          ⟨if_pos hg, rput_none hg, by rw [ins_length]; have := HLB.out; omega, if_neg (by rw [get_ins hg, if_pos rfl]; simp), del_ins hg⟩
        clear hg
        go_wp2_with fail
        with_reducible refine (GET.out).mono ?_
        rintro e wg ⟨rfl, hbg⟩
        have HTW := Lib.hid (And.intro (HTWR.out.1.next hbg) HITM.out)
        replace HB8 := Lib.hid (HB8.out.next hbg)
        have HBX := Lib.hid (And.intro (HBXO.out.1.next hbg) trivial)
        have HBRG := Lib.hid (HBXO.out.2.next hbg)
        clear hbg GET z0 z1
        go_upto_region 15 with (fail)
        have KQ : Hid (∀ w', Fr ((fun j => wa.heap.size ≤ j ∧ j ≠ wc.heap.size)) wg w' → (w'.cell? ⟨wc.heap.size, 0, none⟩ = some (.pointer (some ⟨T2, 0, none⟩)) ∧ w'.cell? ⟨w.heap.size, 0, none⟩ = some (.int .u64 a1) ∧ w'.cell? ⟨w.heap.size, 1, none⟩ = some (.int .i64 a2) ∧ w'.cell? ⟨w.heap.size, 2, none⟩ = some (.int .u64 av)) ∧ Fr ((fun j => wa.heap.size ≤ j ∧ j ≠ wc.heap.size)) wg w') := fun w' hb => ⟨⟨((HB8.out.fr hb (fun h => h.2 rfl)).get 0 rfl), ((HBX.out.1.fr hb (by have := HW1.out; show ¬ (_ ∧ _); omega)).get 0 rfl), ((HBX.out.1.fr hb (by have := HW1.out; show ¬ (_ ∧ _); omega)).get 1 rfl), ((HBX.out.1.fr hb (by have := HW1.out; show ¬ (_ ∧ _); omega)).get 2 rfl)⟩, hb⟩
        refine wp_region_noPanic ?_
        refine wp_region_held_drew (S := fun w' => (w'.cell? ⟨wc.heap.size, 0, none⟩ = some (.pointer (some ⟨T2, 0, none⟩)) ∧ w'.cell? ⟨w.heap.size, 0, none⟩ = some (.int .u64 a1) ∧ w'.cell? ⟨w.heap.size, 1, none⟩ = some (.int .i64 a2) ∧ w'.cell? ⟨w.heap.size, 2, none⟩ = some (.int .u64 av)) ∧ Fr ((fun j => wa.heap.size ≤ j ∧ j ≠ wc.heap.size)) wg w') (by kernel_rfl) (KQ.out _ (Fr.drew ((Fr.refl (fun j => wa.heap.size ≤ j ∧ j ≠ wc.heap.size) wg)))) (fun hH => ?_)
        have hbR := Fr.drew ((Fr.refl (fun j => wa.heap.size ≤ j ∧ j ≠ wc.heap.size) wg))
        first | (refine wpAnyH_take (i := 0) (v := undef) rfl ?_ ?_ ?_ (fun _ _ _ h => h) ?_ ?_ ?_; kernel_rfl; kernel_rfl; kernel_rfl; exact Or.inr ⟨by rfl, rfl⟩; exact hH) | (refine wpAnyH_take (i := 0) (v := ?_) rfl ?_ ?_ ?_ (fun _ _ _ h => h) ?_ ?_ ?_; rotate_left; kernel_rfl; kernel_rfl; kernel_rfl; (focus (refine Or.inl ⟨by rfl, ?_⟩; intro w' hSw; (try dsimp only at hSw); go_simp)); exact hH) | (refine wpAnyH_take (i := 0) (v := ?_) rfl ?_ ?_ ?_ (fun _ _ _ h => h) ?_ ?_ ?_; rotate_left; kernel_rfl; kernel_rfl; kernel_rfl; (focus (refine Or.inl ⟨by rfl, ?_⟩; intro w' hSw; (try dsimp only at hSw); go_simp; with_reducible rfl)); exact hH)
        try simp only [Act.put, List.getElem_toArray, List.getElem_cons_succ, List.getElem_cons_zero, List.setIfInBounds_toArray, List.set_cons_zero, List.set_cons_succ]
        first | (refine wpAnyH_take (i := 1) (v := undef) rfl ?_ ?_ ?_ (fun _ _ _ h => h) ?_ ?_ ?_; kernel_rfl; kernel_rfl; kernel_rfl; exact Or.inr ⟨by rfl, rfl⟩; exact hH) | (refine wpAnyH_take (i := 1) (v := ?_) rfl ?_ ?_ ?_ (fun _ _ _ h => h) ?_ ?_ ?_; rotate_left; kernel_rfl; kernel_rfl; kernel_rfl; (focus (refine Or.inl ⟨by rfl, ?_⟩; intro w' hSw; (try dsimp only at hSw); go_simp)); exact hH) | (refine wpAnyH_take (i := 1) (v := ?_) rfl ?_ ?_ ?_ (fun _ _ _ h => h) ?_ ?_ ?_; rotate_left; kernel_rfl; kernel_rfl; kernel_rfl; (focus (refine Or.inl ⟨by rfl, ?_⟩; intro w' hSw; (try dsimp only at hSw); go_simp; with_reducible rfl)); exact hH)
        try simp only [Act.put, List.getElem_toArray, List.getElem_cons_succ, List.getElem_cons_zero, List.setIfInBounds_toArray, List.set_cons_zero, List.set_cons_succ]
        first | (refine wpAnyH_take (i := 2) (v := undef) rfl ?_ ?_ ?_ (fun _ _ _ h => h) ?_ ?_ ?_; kernel_rfl; kernel_rfl; kernel_rfl; exact Or.inr ⟨by rfl, rfl⟩; exact hH) | (refine wpAnyH_take (i := 2) (v := ?_) rfl ?_ ?_ ?_ (fun _ _ _ h => h) ?_ ?_ ?_; rotate_left; kernel_rfl; kernel_rfl; kernel_rfl; (focus (refine Or.inl ⟨by rfl, ?_⟩; intro w' hSw; (try dsimp only at hSw); go_simp)); exact hH) | (refine wpAnyH_take (i := 2) (v := ?_) rfl ?_ ?_ ?_ (fun _ _ _ h => h) ?_ ?_ ?_; rotate_left; kernel_rfl; kernel_rfl; kernel_rfl; (focus (refine Or.inl ⟨by rfl, ?_⟩; intro w' hSw; (try dsimp only at hSw); go_simp; with_reducible rfl)); exact hH)
        try simp only [Act.put, List.getElem_toArray, List.getElem_cons_succ, List.getElem_cons_zero, List.setIfInBounds_toArray, List.set_cons_zero, List.set_cons_succ]
        first | (refine wpAnyH_take (i := 3) (v := undef) rfl ?_ ?_ ?_ (fun _ _ _ h => h) ?_ ?_ ?_; kernel_rfl; kernel_rfl; kernel_rfl; exact Or.inr ⟨by rfl, rfl⟩; exact hH) | (refine wpAnyH_take (i := 3) (v := ?_) rfl ?_ ?_ ?_ (fun _ _ _ h => h) ?_ ?_ ?_; rotate_left; kernel_rfl; kernel_rfl; kernel_rfl; (focus (refine Or.inl ⟨by rfl, ?_⟩; intro w' hSw; (try dsimp only at hSw); go_simp)); exact hH) | (refine wpAnyH_take (i := 3) (v := ?_) rfl ?_ ?_ ?_ (fun _ _ _ h => h) ?_ ?_ ?_; rotate_left; kernel_rfl; kernel_rfl; kernel_rfl; (focus (refine Or.inl ⟨by rfl, ?_⟩; intro w' hSw; (try dsimp only at hSw); go_simp; with_reducible rfl)); exact hH)
        try simp only [Act.put, List.getElem_toArray, List.getElem_cons_succ, List.getElem_cons_zero, List.setIfInBounds_toArray, List.set_cons_zero, List.set_cons_succ]
        first | (refine wpAnyH_take (i := 4) (v := undef) rfl ?_ ?_ ?_ (fun _ _ _ h => h) ?_ ?_ ?_; kernel_rfl; kernel_rfl; kernel_rfl; exact Or.inr ⟨by rfl, rfl⟩; exact hH) | (refine wpAnyH_take (i := 4) (v := ?_) rfl ?_ ?_ ?_ (fun _ _ _ h => h) ?_ ?_ ?_; rotate_left; kernel_rfl; kernel_rfl; kernel_rfl; (focus (refine Or.inl ⟨by rfl, ?_⟩; intro w' hSw; (try dsimp only at hSw); go_simp)); exact hH) | (refine wpAnyH_take (i := 4) (v := ?_) rfl ?_ ?_ ?_ (fun _ _ _ h => h) ?_ ?_ ?_; rotate_left; kernel_rfl; kernel_rfl; kernel_rfl; (focus (refine Or.inl ⟨by rfl, ?_⟩; intro w' hSw; (try dsimp only at hSw); go_simp; with_reducible rfl)); exact hH)
        try simp only [Act.put, List.getElem_toArray, List.getElem_cons_succ, List.getElem_cons_zero, List.setIfInBounds_toArray, List.set_cons_zero, List.set_cons_succ]
        first | (refine wpAnyH_take (i := 5) (v := undef) rfl ?_ ?_ ?_ (fun _ _ _ h => h) ?_ ?_ ?_; kernel_rfl; kernel_rfl; kernel_rfl; exact Or.inr ⟨by rfl, rfl⟩; exact hH) | (refine wpAnyH_take (i := 5) (v := ?_) rfl ?_ ?_ ?_ (fun _ _ _ h => h) ?_ ?_ ?_; rotate_left; kernel_rfl; kernel_rfl; kernel_rfl; (focus (refine Or.inl ⟨by rfl, ?_⟩; intro w' hSw; (try dsimp only at hSw); go_simp)); exact hH) | (refine wpAnyH_take (i := 5) (v := ?_) rfl ?_ ?_ ?_ (fun _ _ _ h => h) ?_ ?_ ?_; rotate_left; kernel_rfl; kernel_rfl; kernel_rfl; (focus (refine Or.inl ⟨by rfl, ?_⟩; intro w' hSw; (try dsimp only at hSw); go_simp; with_reducible rfl)); exact hH)
        try simp only [Act.put, List.getElem_toArray, List.getElem_cons_succ, List.getElem_cons_zero, List.setIfInBounds_toArray, List.set_cons_zero, List.set_cons_succ]
        first | (refine wpAnyH_take (i := 6) (v := undef) rfl ?_ ?_ ?_ (fun _ _ _ h => h) ?_ ?_ ?_; kernel_rfl; kernel_rfl; kernel_rfl; exact Or.inr ⟨by rfl, rfl⟩; exact hH) | (refine wpAnyH_take (i := 6) (v := ?_) rfl ?_ ?_ ?_ (fun _ _ _ h => h) ?_ ?_ ?_; rotate_left; kernel_rfl; kernel_rfl; kernel_rfl; (focus (refine Or.inl ⟨by rfl, ?_⟩; intro w' hSw; (try dsimp only at hSw); go_simp)); exact hH) | (refine wpAnyH_take (i := 6) (v := ?_) rfl ?_ ?_ ?_ (fun _ _ _ h => h) ?_ ?_ ?_; rotate_left; kernel_rfl; kernel_rfl; kernel_rfl; (focus (refine Or.inl ⟨by rfl, ?_⟩; intro w' hSw; (try dsimp only at hSw); go_simp; with_reducible rfl)); exact hH)
        try simp only [Act.put, List.getElem_toArray, List.getElem_cons_succ, List.getElem_cons_zero, List.setIfInBounds_toArray, List.set_cons_zero, List.set_cons_succ]
        first | (refine wpAnyH_take (i := 7) (v := undef) rfl ?_ ?_ ?_ (fun _ _ _ h => h) ?_ ?_ ?_; kernel_rfl; kernel_rfl; kernel_rfl; exact Or.inr ⟨by rfl, rfl⟩; exact hH) | (refine wpAnyH_take (i := 7) (v := ?_) rfl ?_ ?_ ?_ (fun _ _ _ h => h) ?_ ?_ ?_; rotate_left; kernel_rfl; kernel_rfl; kernel_rfl; (focus (refine Or.inl ⟨by rfl, ?_⟩; intro w' hSw; (try dsimp only at hSw); go_simp)); exact hH) | (refine wpAnyH_take (i := 7) (v := ?_) rfl ?_ ?_ ?_ (fun _ _ _ h => h) ?_ ?_ ?_; rotate_left; kernel_rfl; kernel_rfl; kernel_rfl; (focus (refine Or.inl ⟨by rfl, ?_⟩; intro w' hSw; (try dsimp only at hSw); go_simp; with_reducible rfl)); exact hH)
        try simp only [Act.put, List.getElem_toArray, List.getElem_cons_succ, List.getElem_cons_zero, List.setIfInBounds_toArray, List.set_cons_zero, List.set_cons_succ]
        refine wpAnyH_ready (rs := [8]) (by kernel_rfl) (by simp) ?_
        refine (AllReadyH.cons rfl (fun K hK => ?_) AllReadyH.nil)
        go_simp
        with_reducible refine (ru_putAny T1 t1 (a1, a2) av _ (HTW.out.1.next (below_of_drew (Below.refl wg.heap.size wg))).a.is HTW.out.2.2).mono ?_
        rintro e w1 ⟨rfl, t3, hp1, hi1⟩
        rw [HPE.out.1]
        have fr1 : Fr (fun j => wa.heap.size ≤ j ∧ j ≠ wc.heap.size) wg w1 := hH.2.trans (hp1.sets (HTW.out.1.next (below_of_drew (Below.refl wg.heap.size wg))).a HOU.out.1)
        have HA8 := Lib.hid (And.intro ((HTW.out.1.next (below_of_drew (Below.refl wg.heap.size wg))).step hp1) (And.intro (hi1.trans HPE.out.2.1) (HOU.out.1.step hp1 HB8.out.lt)))
        clear hp1 hi1
        refine hK.out _ _ (KQ.out _ fr1) (fun hH1 => ?_)
        clear hK K hH
        have hH := hH1
        clear hH1
        try simp only [Act.put, List.getElem_toArray, List.getElem_cons_succ, List.getElem_cons_zero, List.setIfInBounds_toArray, List.set_cons_zero, List.set_cons_succ]
        first | (refine wpAnyH_take (i := 9) (v := undef) rfl ?_ ?_ ?_ (fun _ _ _ h => h) ?_ ?_ ?_; kernel_rfl; kernel_rfl; kernel_rfl; exact Or.inr ⟨by rfl, rfl⟩; exact hH) | (refine wpAnyH_take (i := 9) (v := ?_) rfl ?_ ?_ ?_ (fun _ _ _ h => h) ?_ ?_ ?_; rotate_left; kernel_rfl; kernel_rfl; kernel_rfl; (focus (refine Or.inl ⟨by rfl, ?_⟩; intro w' hSw; (try dsimp only at hSw); go_simp)); exact hH) | (refine wpAnyH_take (i := 9) (v := ?_) rfl ?_ ?_ ?_ (fun _ _ _ h => h) ?_ ?_ ?_; rotate_left; kernel_rfl; kernel_rfl; kernel_rfl; (focus (refine Or.inl ⟨by rfl, ?_⟩; intro w' hSw; (try dsimp only at hSw); go_simp; with_reducible rfl)); exact hH)
        try simp only [Act.put, List.getElem_toArray, List.getElem_cons_succ, List.getElem_cons_zero, List.setIfInBounds_toArray, List.set_cons_zero, List.set_cons_succ]
        first | (refine wpAnyH_take (i := 10) (v := undef) rfl ?_ ?_ ?_ (fun _ _ _ h => h) ?_ ?_ ?_; kernel_rfl; kernel_rfl; kernel_rfl; exact Or.inr ⟨by rfl, rfl⟩; exact hH) | (refine wpAnyH_take (i := 10) (v := ?_) rfl ?_ ?_ ?_ (fun _ _ _ h => h) ?_ ?_ ?_; rotate_left; kernel_rfl; kernel_rfl; kernel_rfl; (focus (refine Or.inl ⟨by rfl, ?_⟩; intro w' hSw; (try dsimp only at hSw); go_simp)); exact hH) | (refine wpAnyH_take (i := 10) (v := ?_) rfl ?_ ?_ ?_ (fun _ _ _ h => h) ?_ ?_ ?_; rotate_left; kernel_rfl; kernel_rfl; kernel_rfl; (focus (refine Or.inl ⟨by rfl, ?_⟩; intro w' hSw; (try dsimp only at hSw); go_simp; with_reducible rfl)); exact hH)
        try simp only [Act.put, List.getElem_toArray, List.getElem_cons_succ, List.getElem_cons_zero, List.setIfInBounds_toArray, List.set_cons_zero, List.set_cons_succ]
        first | (refine wpAnyH_take (i := 11) (v := undef) rfl ?_ ?_ ?_ (fun _ _ _ h => h) ?_ ?_ ?_; kernel_rfl; kernel_rfl; kernel_rfl; exact Or.inr ⟨by rfl, rfl⟩; exact hH) | (refine wpAnyH_take (i := 11) (v := ?_) rfl ?_ ?_ ?_ (fun _ _ _ h => h) ?_ ?_ ?_; rotate_left; kernel_rfl; kernel_rfl; kernel_rfl; (focus (refine Or.inl ⟨by rfl, ?_⟩; intro w' hSw; (try dsimp only at hSw); go_simp)); exact hH) | (refine wpAnyH_take (i := 11) (v := ?_) rfl ?_ ?_ ?_ (fun _ _ _ h => h) ?_ ?_ ?_; rotate_left; kernel_rfl; kernel_rfl; kernel_rfl; (focus (refine Or.inl ⟨by rfl, ?_⟩; intro w' hSw; (try dsimp only at hSw); go_simp; with_reducible rfl)); exact hH)
        try simp only [Act.put, List.getElem_toArray, List.getElem_cons_succ, List.getElem_cons_zero, List.setIfInBounds_toArray, List.set_cons_zero, List.set_cons_succ]
        first | (refine wpAnyH_take (i := 12) (v := undef) rfl ?_ ?_ ?_ (fun _ _ _ h => h) ?_ ?_ ?_; kernel_rfl; kernel_rfl; kernel_rfl; exact Or.inr ⟨by rfl, rfl⟩; exact hH) | (refine wpAnyH_take (i := 12) (v := ?_) rfl ?_ ?_ ?_ (fun _ _ _ h => h) ?_ ?_ ?_; rotate_left; kernel_rfl; kernel_rfl; kernel_rfl; (focus (refine Or.inl ⟨by rfl, ?_⟩; intro w' hSw; (try dsimp only at hSw); go_simp)); exact hH) | (refine wpAnyH_take (i := 12) (v := ?_) rfl ?_ ?_ ?_ (fun _ _ _ h => h) ?_ ?_ ?_; rotate_left; kernel_rfl; kernel_rfl; kernel_rfl; (focus (refine Or.inl ⟨by rfl, ?_⟩; intro w' hSw; (try dsimp only at hSw); go_simp; with_reducible rfl)); exact hH)
        try simp only [Act.put, List.getElem_toArray, List.getElem_cons_succ, List.getElem_cons_zero, List.setIfInBounds_toArray, List.set_cons_zero, List.set_cons_succ]
        first | (refine wpAnyH_take (i := 13) (v := undef) rfl ?_ ?_ ?_ (fun _ _ _ h => h) ?_ ?_ ?_; kernel_rfl; kernel_rfl; kernel_rfl; exact Or.inr ⟨by rfl, rfl⟩; exact hH) | (refine wpAnyH_take (i := 13) (v := ?_) rfl ?_ ?_ ?_ (fun _ _ _ h => h) ?_ ?_ ?_; rotate_left; kernel_rfl; kernel_rfl; kernel_rfl; (focus (refine Or.inl ⟨by rfl, ?_⟩; intro w' hSw; (try dsimp only at hSw); go_simp)); exact hH) | (refine wpAnyH_take (i := 13) (v := ?_) rfl ?_ ?_ ?_ (fun _ _ _ h => h) ?_ ?_ ?_; rotate_left; kernel_rfl; kernel_rfl; kernel_rfl; (focus (refine Or.inl ⟨by rfl, ?_⟩; intro w' hSw; (try dsimp only at hSw); go_simp; with_reducible rfl)); exact hH)
        try simp only [Act.put, List.getElem_toArray, List.getElem_cons_succ, List.getElem_cons_zero, List.setIfInBounds_toArray, List.set_cons_zero, List.set_cons_succ]
        refine wpAnyH_ready (rs := [14]) (by kernel_rfl) (by simp) ?_
        refine (AllReadyH.cons rfl (fun K hK => ?_) AllReadyH.nil)
        go_simp
        with_reducible refine (ru_dropAny T1 t3 (a1, a2) _ HA8.out.1.a.is (by rw [HA8.out.2.1]; exact HPE.out.2.2.1)).mono ?_
        rintro e w2 ⟨rfl, t4, hp2, hi2⟩
        rw [HA8.out.2.1, HPE.out.2.2.2.1]
        have fr2 : Fr (fun j => wa.heap.size ≤ j ∧ j ≠ wc.heap.size) wg w2 := hH.2.trans (hp2.sets HA8.out.1.a HA8.out.2.2)
        have HA14 := Lib.hid (And.intro (HA8.out.1.step hp2) (And.intro (hi2.trans (show del (a1, a2) t3.items = t1.items by rw [HA8.out.2.1]; exact HPE.out.2.2.2.2)) (HA8.out.2.2.step hp2 (Nat.lt_of_lt_of_le HB8.out.lt (by have := hH.2.size; exact this)))))
        clear hp2 hi2
        refine hK.out _ _ (KQ.out _ fr2) (fun hH2 => ?_)
        clear hK K hH
        have hH := hH2
        clear hH2
        try simp only [Act.put, List.getElem_toArray, List.getElem_cons_succ, List.getElem_cons_zero, List.setIfInBounds_toArray, List.set_cons_zero, List.set_cons_succ]
        first | (refine wpAnyH_take (i := 15) (v := undef) rfl ?_ ?_ ?_ (fun _ _ _ h => h) ?_ ?_ ?_; kernel_rfl; kernel_rfl; kernel_rfl; exact Or.inr ⟨by rfl, rfl⟩; exact hH) | (refine wpAnyH_take (i := 15) (v := ?_) rfl ?_ ?_ ?_ (fun _ _ _ h => h) ?_ ?_ ?_; rotate_left; kernel_rfl; kernel_rfl; kernel_rfl; (focus (refine Or.inl ⟨by rfl, ?_⟩; intro w' hSw; (try dsimp only at hSw); go_simp)); exact hH) | (refine wpAnyH_take (i := 15) (v := ?_) rfl ?_ ?_ ?_ (fun _ _ _ h => h) ?_ ?_ ?_; rotate_left; kernel_rfl; kernel_rfl; kernel_rfl; (focus (refine Or.inl ⟨by rfl, ?_⟩; intro w' hSw; (try dsimp only at hSw); go_simp; with_reducible rfl)); exact hH)
        try simp only [Act.put, List.getElem_toArray, List.getElem_cons_succ, List.getElem_cons_zero, List.setIfInBounds_toArray, List.set_cons_zero, List.set_cons_succ]
        first | (refine wpAnyH_take (i := 16) (v := undef) rfl ?_ ?_ ?_ (fun _ _ _ h => h) ?_ ?_ ?_; kernel_rfl; kernel_rfl; kernel_rfl; exact Or.inr ⟨by rfl, rfl⟩; exact hH) | (refine wpAnyH_take (i := 16) (v := ?_) rfl ?_ ?_ ?_ (fun _ _ _ h => h) ?_ ?_ ?_; rotate_left; kernel_rfl; kernel_rfl; kernel_rfl; (focus (refine Or.inl ⟨by rfl, ?_⟩; intro w' hSw; (try dsimp only at hSw); go_simp)); exact hH) | (refine wpAnyH_take (i := 16) (v := ?_) rfl ?_ ?_ ?_ (fun _ _ _ h => h) ?_ ?_ ?_; rotate_left; kernel_rfl; kernel_rfl; kernel_rfl; (focus (refine Or.inl ⟨by rfl, ?_⟩; intro w' hSw; (try dsimp only at hSw); go_simp; with_reducible rfl)); exact hH)
        try simp only [Act.put, List.getElem_toArray, List.getElem_cons_succ, List.getElem_cons_zero, List.setIfInBounds_toArray, List.set_cons_zero, List.set_cons_succ]
        first | (refine wpAnyH_take (i := 17) (v := undef) rfl ?_ ?_ ?_ (fun _ _ _ h => h) ?_ ?_ ?_; kernel_rfl; kernel_rfl; kernel_rfl; exact Or.inr ⟨by rfl, rfl⟩; exact hH) | (refine wpAnyH_take (i := 17) (v := ?_) rfl ?_ ?_ ?_ (fun _ _ _ h => h) ?_ ?_ ?_; rotate_left; kernel_rfl; kernel_rfl; kernel_rfl; (focus (refine Or.inl ⟨by rfl, ?_⟩; intro w' hSw; (try dsimp only at hSw); go_simp)); exact hH) | (refine wpAnyH_take (i := 17) (v := ?_) rfl ?_ ?_ ?_ (fun _ _ _ h => h) ?_ ?_ ?_; rotate_left; kernel_rfl; kernel_rfl; kernel_rfl; (focus (refine Or.inl ⟨by rfl, ?_⟩; intro w' hSw; (try dsimp only at hSw); go_simp; with_reducible rfl)); exact hH)
        try simp only [Act.put, List.getElem_toArray, List.getElem_cons_succ, List.getElem_cons_zero, List.setIfInBounds_toArray, List.set_cons_zero, List.set_cons_succ]
        first | (refine wpAnyH_take (i := 18) (v := undef) rfl ?_ ?_ ?_ (fun _ _ _ h => h) ?_ ?_ ?_; kernel_rfl; kernel_rfl; kernel_rfl; exact Or.inr ⟨by rfl, rfl⟩; exact hH) | (refine wpAnyH_take (i := 18) (v := ?_) rfl ?_ ?_ ?_ (fun _ _ _ h => h) ?_ ?_ ?_; rotate_left; kernel_rfl; kernel_rfl; kernel_rfl; (focus (refine Or.inl ⟨by rfl, ?_⟩; intro w' hSw; (try dsimp only at hSw); go_simp)); exact hH) | (refine wpAnyH_take (i := 18) (v := ?_) rfl ?_ ?_ ?_ (fun _ _ _ h => h) ?_ ?_ ?_; rotate_left; kernel_rfl; kernel_rfl; kernel_rfl; (focus (refine Or.inl ⟨by rfl, ?_⟩; intro w' hSw; (try dsimp only at hSw); go_simp; with_reducible rfl)); exact hH)
        try simp only [Act.put, List.getElem_toArray, List.getElem_cons_succ, List.getElem_cons_zero, List.setIfInBounds_toArray, List.set_cons_zero, List.set_cons_succ]
        first | (refine wpAnyH_take (i := 19) (v := undef) rfl ?_ ?_ ?_ (fun _ _ _ h => h) ?_ ?_ ?_; kernel_rfl; kernel_rfl; kernel_rfl; exact Or.inr ⟨by rfl, rfl⟩; exact hH) | (refine wpAnyH_take (i := 19) (v := ?_) rfl ?_ ?_ ?_ (fun _ _ _ h => h) ?_ ?_ ?_; rotate_left; kernel_rfl; kernel_rfl; kernel_rfl; (focus (refine Or.inl ⟨by rfl, ?_⟩; intro w' hSw; (try dsimp only at hSw); go_simp)); exact hH) | (refine wpAnyH_take (i := 19) (v := ?_) rfl ?_ ?_ ?_ (fun _ _ _ h => h) ?_ ?_ ?_; rotate_left; kernel_rfl; kernel_rfl; kernel_rfl; (focus (refine Or.inl ⟨by rfl, ?_⟩; intro w' hSw; (try dsimp only at hSw); go_simp; with_reducible rfl)); exact hH)
        try simp only [Act.put, List.getElem_toArray, List.getElem_cons_succ, List.getElem_cons_zero, List.setIfInBounds_toArray, List.set_cons_zero, List.set_cons_succ]
        first | (refine wpAnyH_take (i := 21) (v := undef) rfl ?_ ?_ ?_ (fun _ _ _ h => h) ?_ ?_ ?_; kernel_rfl; kernel_rfl; kernel_rfl; exact Or.inr ⟨by rfl, rfl⟩; exact hH) | (refine wpAnyH_take (i := 21) (v := ?_) rfl ?_ ?_ ?_ (fun _ _ _ h => h) ?_ ?_ ?_; rotate_left; kernel_rfl; kernel_rfl; kernel_rfl; (focus (refine Or.inl ⟨by rfl, ?_⟩; intro w' hSw; (try dsimp only at hSw); go_simp)); exact hH) | (refine wpAnyH_take (i := 21) (v := ?_) rfl ?_ ?_ ?_ (fun _ _ _ h => h) ?_ ?_ ?_; rotate_left; kernel_rfl; kernel_rfl; kernel_rfl; (focus (refine Or.inl ⟨by rfl, ?_⟩; intro w' hSw; (try dsimp only at hSw); go_simp; with_reducible rfl)); exact hH)
        try simp only [Act.put, List.getElem_toArray, List.getElem_cons_succ, List.getElem_cons_zero, List.setIfInBounds_toArray, List.set_cons_zero, List.set_cons_succ]
        refine wpAnyH_ready (rs := [20]) (by kernel_rfl) (by simp) ?_
        refine (AllReadyH.cons rfl (fun K hK => ?_) AllReadyH.nil)
        go_simp
        with_reducible refine (ru_len T1 t4 _ (HA14.out.1).a.is).mono ?_
        rintro e w3 ⟨rfl, hb3⟩
        rw [show t4.items.length = l from (congrArg List.length (HA14.out.2.1 : t4.items = _)).trans HLN.out]
        have fr3 : Fr (fun j => wa.heap.size ≤ j ∧ j ≠ wc.heap.size) wg w3 := hH.2.trans (Fr.of_new hb3)
        have HA20 := Lib.hid ((HA14.out.1).next hb3)
        clear hb3
        refine hK.out _ _ (KQ.out _ fr3) (fun hH3 => ?_)
        clear hK K hH
        have hH := hH3
        clear hH3
        try simp only [Act.put, List.getElem_toArray, List.getElem_cons_succ, List.getElem_cons_zero, List.setIfInBounds_toArray, List.set_cons_zero, List.set_cons_succ]
        refine wpAnyH_ready (rs := [22]) (by kernel_rfl) (by simp) ?_
        refine (AllReadyH.cons rfl (fun K hK => ?_) AllReadyH.nil)
        go_simp
        with_reducible refine (ru_len T2 t2 _ HA20.out.b.is).mono ?_
        rintro e w4 ⟨rfl, hb4⟩
        rw [HLN2.out]
        have fr4 : Fr (fun j => wa.heap.size ≤ j ∧ j ≠ wc.heap.size) wg w4 := hH.2.trans (Fr.of_new hb4)
        have HA22 := Lib.hid ((HA20.out).next hb4)
        clear hb4
        refine hK.out _ _ (KQ.out _ fr4) (fun hH4 => ?_)
        clear hK K hH
        have hH := hH4
        clear hH4
        try simp only [Act.put, List.getElem_toArray, List.getElem_cons_succ, List.getElem_cons_zero, List.setIfInBounds_toArray, List.set_cons_zero, List.set_cons_succ]
        first | (refine wpAnyH_take (i := 23) (v := undef) rfl ?_ ?_ ?_ (fun _ _ _ h => h) ?_ ?_ ?_; kernel_rfl; kernel_rfl; kernel_rfl; exact Or.inr ⟨by rfl, rfl⟩; exact hH) | (refine wpAnyH_take (i := 23) (v := ?_) rfl ?_ ?_ ?_ (fun _ _ _ h => h) ?_ ?_ ?_; rotate_left; kernel_rfl; kernel_rfl; kernel_rfl; (focus (refine Or.inl ⟨by rfl, ?_⟩; intro w' hSw; (try dsimp only at hSw); go_simp)); exact hH) | (refine wpAnyH_take (i := 23) (v := ?_) rfl ?_ ?_ ?_ (fun _ _ _ h => h) ?_ ?_ ?_; rotate_left; kernel_rfl; kernel_rfl; kernel_rfl; (focus (refine Or.inl ⟨by rfl, ?_⟩; intro w' hSw; (try dsimp only at hSw); go_simp; with_reducible rfl)); exact hH)
        try simp only [Act.put, List.getElem_toArray, List.getElem_cons_succ, List.getElem_cons_zero, List.setIfInBounds_toArray, List.set_cons_zero, List.set_cons_succ]
        first | (refine wpAnyH_take (i := 24) (v := undef) rfl ?_ ?_ ?_ (fun _ _ _ h => h) ?_ ?_ ?_; kernel_rfl; kernel_rfl; kernel_rfl; exact Or.inr ⟨by rfl, rfl⟩; exact hH) | (refine wpAnyH_take (i := 24) (v := ?_) rfl ?_ ?_ ?_ (fun _ _ _ h => h) ?_ ?_ ?_; rotate_left; kernel_rfl; kernel_rfl; kernel_rfl; (focus (refine Or.inl ⟨by rfl, ?_⟩; intro w' hSw; (try dsimp only at hSw); go_simp)); exact hH) | (refine wpAnyH_take (i := 24) (v := ?_) rfl ?_ ?_ ?_ (fun _ _ _ h => h) ?_ ?_ ?_; rotate_left; kernel_rfl; kernel_rfl; kernel_rfl; (focus (refine Or.inl ⟨by rfl, ?_⟩; intro w' hSw; (try dsimp only at hSw); go_simp; with_reducible rfl)); exact hH)
        try simp only [Act.put, List.getElem_toArray, List.getElem_cons_succ, List.getElem_cons_zero, List.setIfInBounds_toArray, List.set_cons_zero, List.set_cons_succ]
        first | (refine wpAnyH_take (i := 25) (v := undef) rfl ?_ ?_ ?_ (fun _ _ _ h => h) ?_ ?_ ?_; kernel_rfl; kernel_rfl; kernel_rfl; exact Or.inr ⟨by rfl, rfl⟩; exact hH) | (refine wpAnyH_take (i := 25) (v := ?_) rfl ?_ ?_ ?_ (fun _ _ _ h => h) ?_ ?_ ?_; rotate_left; kernel_rfl; kernel_rfl; kernel_rfl; (focus (refine Or.inl ⟨by rfl, ?_⟩; intro w' hSw; (try dsimp only at hSw); go_simp)); exact hH) | (refine wpAnyH_take (i := 25) (v := ?_) rfl ?_ ?_ ?_ (fun _ _ _ h => h) ?_ ?_ ?_; rotate_left; kernel_rfl; kernel_rfl; kernel_rfl; (focus (refine Or.inl ⟨by rfl, ?_⟩; intro w' hSw; (try dsimp only at hSw); go_simp; with_reducible rfl)); exact hH)
        try simp only [Act.put, List.getElem_toArray, List.getElem_cons_succ, List.getElem_cons_zero, List.setIfInBounds_toArray, List.set_cons_zero, List.set_cons_succ]
        first | (refine wpAnyH_take (i := 26) (v := undef) rfl ?_ ?_ ?_ (fun _ _ _ h => h) ?_ ?_ ?_; kernel_rfl; kernel_rfl; kernel_rfl; exact Or.inr ⟨by rfl, rfl⟩; exact hH) | (refine wpAnyH_take (i := 26) (v := ?_) rfl ?_ ?_ ?_ (fun _ _ _ h => h) ?_ ?_ ?_; rotate_left; kernel_rfl; kernel_rfl; kernel_rfl; (focus (refine Or.inl ⟨by rfl, ?_⟩; intro w' hSw; (try dsimp only at hSw); go_simp)); exact hH) | (refine wpAnyH_take (i := 26) (v := ?_) rfl ?_ ?_ ?_ (fun _ _ _ h => h) ?_ ?_ ?_; rotate_left; kernel_rfl; kernel_rfl; kernel_rfl; (focus (refine Or.inl ⟨by rfl, ?_⟩; intro w' hSw; (try dsimp only at hSw); go_simp; with_reducible rfl)); exact hH)
        try simp only [Act.put, List.getElem_toArray, List.getElem_cons_succ, List.getElem_cons_zero, List.setIfInBounds_toArray, List.set_cons_zero, List.set_cons_succ]
        refine wpAnyH_ready (rs := [27]) (by kernel_rfl) (by simp) ?_
        refine (AllReadyH.cons rfl (fun K hK => ?_) AllReadyH.nil)
        go_simp
        with_reducible refine (ru_Well T1 t4 _ HA22.out.a.is (HSZ4.out t4 HA14.out.2.1)).mono ?_
        rintro e w5 ⟨rfl, hb5⟩
        have fr5 : Fr (fun j => wa.heap.size ≤ j ∧ j ≠ wc.heap.size) wg w5 := hH.2.trans (Fr.of_new hb5)
        have HA27 := Lib.hid ((HA22.out).next hb5)
        clear hb5
        refine hK.out _ _ (KQ.out _ fr5) (fun hH5 => ?_)
        clear hK K hH
        have hH := hH5
        clear hH5
        try simp only [Act.put, List.getElem_toArray, List.getElem_cons_succ, List.getElem_cons_zero, List.setIfInBounds_toArray, List.set_cons_zero, List.set_cons_succ]
        first | (refine wpAnyH_take (i := 28) (v := undef) rfl ?_ ?_ ?_ (fun _ _ _ h => h) ?_ ?_ ?_; kernel_rfl; kernel_rfl; kernel_rfl; exact Or.inr ⟨by rfl, rfl⟩; exact hH) | (refine wpAnyH_take (i := 28) (v := ?_) rfl ?_ ?_ ?_ (fun _ _ _ h => h) ?_ ?_ ?_; rotate_left; kernel_rfl; kernel_rfl; kernel_rfl; (focus (refine Or.inl ⟨by rfl, ?_⟩; intro w' hSw; (try dsimp only at hSw); go_simp)); exact hH) | (refine wpAnyH_take (i := 28) (v := ?_) rfl ?_ ?_ ?_ (fun _ _ _ h => h) ?_ ?_ ?_; rotate_left; kernel_rfl; kernel_rfl; kernel_rfl; (focus (refine Or.inl ⟨by rfl, ?_⟩; intro w' hSw; (try dsimp only at hSw); go_simp; with_reducible rfl)); exact hH)
        try simp only [Act.put, List.getElem_toArray, List.getElem_cons_succ, List.getElem_cons_zero, List.setIfInBounds_toArray, List.set_cons_zero, List.set_cons_succ]
        first | (refine wpAnyH_take (i := 29) (v := undef) rfl ?_ ?_ ?_ (fun _ _ _ h => h) ?_ ?_ ?_; kernel_rfl; kernel_rfl; kernel_rfl; exact Or.inr ⟨by rfl, rfl⟩; exact hH) | (refine wpAnyH_take (i := 29) (v := ?_) rfl ?_ ?_ ?_ (fun _ _ _ h => h) ?_ ?_ ?_; rotate_left; kernel_rfl; kernel_rfl; kernel_rfl; (focus (refine Or.inl ⟨by rfl, ?_⟩; intro w' hSw; (try dsimp only at hSw); go_simp)); exact hH) | (refine wpAnyH_take (i := 29) (v := ?_) rfl ?_ ?_ ?_ (fun _ _ _ h => h) ?_ ?_ ?_; rotate_left; kernel_rfl; kernel_rfl; kernel_rfl; (focus (refine Or.inl ⟨by rfl, ?_⟩; intro w' hSw; (try dsimp only at hSw); go_simp; with_reducible rfl)); exact hH)
        try simp only [Act.put, List.getElem_toArray, List.getElem_cons_succ, List.getElem_cons_zero, List.setIfInBounds_toArray, List.set_cons_zero, List.set_cons_succ]
        first | (refine wpAnyH_take (i := 30) (v := undef) rfl ?_ ?_ ?_ (fun _ _ _ h => h) ?_ ?_ ?_; kernel_rfl; kernel_rfl; kernel_rfl; exact Or.inr ⟨by rfl, rfl⟩; exact hH) | (refine wpAnyH_take (i := 30) (v := ?_) rfl ?_ ?_ ?_ (fun _ _ _ h => h) ?_ ?_ ?_; rotate_left; kernel_rfl; kernel_rfl; kernel_rfl; (focus (refine Or.inl ⟨by rfl, ?_⟩; intro w' hSw; (try dsimp only at hSw); go_simp)); exact hH) | (refine wpAnyH_take (i := 30) (v := ?_) rfl ?_ ?_ ?_ (fun _ _ _ h => h) ?_ ?_ ?_; rotate_left; kernel_rfl; kernel_rfl; kernel_rfl; (focus (refine Or.inl ⟨by rfl, ?_⟩; intro w' hSw; (try dsimp only at hSw); go_simp; with_reducible rfl)); exact hH)
        try simp only [Act.put, List.getElem_toArray, List.getElem_cons_succ, List.getElem_cons_zero, List.setIfInBounds_toArray, List.set_cons_zero, List.set_cons_succ]
        first | (refine wpAnyH_take (i := 31) (v := undef) rfl ?_ ?_ ?_ (fun _ _ _ h => h) ?_ ?_ ?_; kernel_rfl; kernel_rfl; kernel_rfl; exact Or.inr ⟨by rfl, rfl⟩; exact hH) | (refine wpAnyH_take (i := 31) (v := ?_) rfl ?_ ?_ ?_ (fun _ _ _ h => h) ?_ ?_ ?_; rotate_left; kernel_rfl; kernel_rfl; kernel_rfl; (focus (refine Or.inl ⟨by rfl, ?_⟩; intro w' hSw; (try dsimp only at hSw); go_simp)); exact hH) | (refine wpAnyH_take (i := 31) (v := ?_) rfl ?_ ?_ ?_ (fun _ _ _ h => h) ?_ ?_ ?_; rotate_left; kernel_rfl; kernel_rfl; kernel_rfl; (focus (refine Or.inl ⟨by rfl, ?_⟩; intro w' hSw; (try dsimp only at hSw); go_simp; with_reducible rfl)); exact hH)
        try simp only [Act.put, List.getElem_toArray, List.getElem_cons_succ, List.getElem_cons_zero, List.setIfInBounds_toArray, List.set_cons_zero, List.set_cons_succ]
        refine wpAnyH_ready (rs := [32]) (by kernel_rfl) (by simp) ?_
        refine (AllReadyH.cons rfl (fun K hK => ?_) AllReadyH.nil)
        go_simp
        with_reducible refine (ru_Well T2 t2 _ HA27.out.b.is HSZ2.out).mono ?_
        rintro e w6 ⟨rfl, hb6⟩
        have fr6 : Fr (fun j => wa.heap.size ≤ j ∧ j ≠ wc.heap.size) wg w6 := hH.2.trans (Fr.of_new hb6)
        have HA32 := Lib.hid ((HA27.out).next hb6)
        clear hb6
        refine hK.out _ _ (KQ.out _ fr6) (fun hH6 => ?_)
        clear hK K hH
        have hH := hH6
        clear hH6
        try simp only [Act.put, List.getElem_toArray, List.getElem_cons_succ, List.getElem_cons_zero, List.setIfInBounds_toArray, List.set_cons_zero, List.set_cons_succ]
        first | (refine wpAnyH_take (i := 33) (v := undef) rfl ?_ ?_ ?_ (fun _ _ _ h => h) ?_ ?_ ?_; kernel_rfl; kernel_rfl; kernel_rfl; exact Or.inr ⟨by rfl, rfl⟩; exact hH) | (refine wpAnyH_take (i := 33) (v := ?_) rfl ?_ ?_ ?_ (fun _ _ _ h => h) ?_ ?_ ?_; rotate_left; kernel_rfl; kernel_rfl; kernel_rfl; (focus (refine Or.inl ⟨by rfl, ?_⟩; intro w' hSw; (try dsimp only at hSw); go_simp)); exact hH) | (refine wpAnyH_take (i := 33) (v := ?_) rfl ?_ ?_ ?_ (fun _ _ _ h => h) ?_ ?_ ?_; rotate_left; kernel_rfl; kernel_rfl; kernel_rfl; (focus (refine Or.inl ⟨by rfl, ?_⟩; intro w' hSw; (try dsimp only at hSw); go_simp; with_reducible rfl)); exact hH)
        try simp only [Act.put, List.getElem_toArray, List.getElem_cons_succ, List.getElem_cons_zero, List.setIfInBounds_toArray, List.set_cons_zero, List.set_cons_succ]
        first | (refine wpAnyH_take (i := 34) (v := undef) rfl ?_ ?_ ?_ (fun _ _ _ h => h) ?_ ?_ ?_; kernel_rfl; kernel_rfl; kernel_rfl; exact Or.inr ⟨by rfl, rfl⟩; exact hH) | (refine wpAnyH_take (i := 34) (v := ?_) rfl ?_ ?_ ?_ (fun _ _ _ h => h) ?_ ?_ ?_; rotate_left; kernel_rfl; kernel_rfl; kernel_rfl; (focus (refine Or.inl ⟨by rfl, ?_⟩; intro w' hSw; (try dsimp only at hSw); go_simp)); exact hH) | (refine wpAnyH_take (i := 34) (v := ?_) rfl ?_ ?_ ?_ (fun _ _ _ h => h) ?_ ?_ ?_; rotate_left; kernel_rfl; kernel_rfl; kernel_rfl; (focus (refine Or.inl ⟨by rfl, ?_⟩; intro w' hSw; (try dsimp only at hSw); go_simp; with_reducible rfl)); exact hH)
        try simp only [Act.put, List.getElem_toArray, List.getElem_cons_succ, List.getElem_cons_zero, List.setIfInBounds_toArray, List.set_cons_zero, List.set_cons_succ]
        refine wpAnyH_done (by kernel_rfl) ?_ _
        refine NoPanic.normal ?_
        clear hH KQ
        have HFX := Lib.hid fr6
        clear fr1 fr2 fr3 fr4 fr5 fr6
        have HXB := Lib.hid (And.intro (HB8.out.fr HFX.out (fun h => h.2 rfl)) (HBRG.out.fr HFX.out (by have := HW1.out; show ¬ (_ ∧ _); omega)))
        have HIT : Hid (t2.items = t4.items) := HTW.out.2.1.trans HA14.out.2.1.symm
        go_wp2_with fail
        with_reducible refine (ru_Each _ rfl _).mono ?_
        rintro e wx ⟨rfl, rfl⟩
        go_wp2_with fail
        obtain ⟨W0, hW0⟩ : ∃ x, w6.alloc (.cells #[.pointer (some ⟨T1, 0, none⟩)] 24) = x := ⟨_, rfl⟩
        have b0 : Blk W0 w6.heap.size 24 #[.pointer (some ⟨T1, 0, none⟩)] := by rw [← hW0]; exact Blk.new _ _ _
        have hB0 : Below w6.heap.size w6 W0 := by rw [← hW0]; exact (Below.refl _ _).alloc (Nat.le_refl _) _
        have hsz : W0.heap.size = w6.heap.size + 1 := by rw [← hW0]; simp
        rw [hW0]
        have HSZ := Lib.hid hsz
        have i1 := HA32.out.next hB0
        have i2 := HXB.out.1.next hB0
        have i3 := HXB.out.2.next hB0
        clear hW0 hsz
        have HW2 : Hid (wa.heap.size ≤ w6.heap.size) := HA32.out.a.below.size
        refine wp_range (gf := 70) (lb := #[.pointer (some ⟨w6.heap.size, 0, none⟩)]) rfl (enters_of Try.func70 (by kernel_rfl) rfl) (ru_yields T1 w6.heap.size t4) (fun _ _ => rfl)
          (fun k W => Two wa W T1 t4 T2 t2 ∧ Blk W w6.heap.size 24 #[.pointer (some ⟨T1, 0, none⟩)] ∧ Blk W wc.heap.size 24 #[.pointer (some ⟨T2, 0, none⟩)] ∧ Blk W (w.heap.size + 1) 4 #[.bool false] ∧ W0.heap.size ≤ W.heap.size)
          (fun _ _ _ => False) ?hI (fun _ _ _ _ h _ => h) (fun k A h => ⟨h.1.a.is, h.2.1⟩) ?h0 ?hround ?hdone (fun _ _ _ _ h _ => h.elim)
        case hI =>
          rintro k A C ⟨h1, h2, h3, h4, h5⟩ hs
          exact ⟨h1.stays hs (by have := HW2.out; have := HSZ.out; omega), h2.stays hs, h3.stays hs, h4.stays hs, Nat.le_trans h5 hs.size⟩
        case h0 => exact ⟨i1, b0, i2, i3, Nat.le_refl _⟩
        case hround =>
          rintro k W hk ⟨h1, h2, h3, h4, h5⟩ hlt
          obtain ⟨kk, vv, q1⟩ : ∃ kk vv, t4.items[k]? = some (kk, vv) := ⟨(t4.items[k]).1, (t4.items[k]).2, List.getElem?_eq_getElem hk⟩
          rw [encRB_at q1]
          have hget : get kk t2.items = some vv := by rw [HIT.out]; exact get_of_mem h1.a.is.rises (List.mem_of_getElem? q1)
          have HI := Lib.hid (And.intro h1 (And.intro h2 (And.intro h3 (And.intro h4 h5))))
          clear h1 h2 h3 h4 h5 q1 hk b0 hB0 i1 i2 i3
          gi_wp2
          refine ⟨(Holds.refl hlt).alloc _, fun W2 hs => ?_⟩
          obtain ⟨OB, hOB⟩ : ∃ x, x = (.cells #[.int .u64 kk.1, .int .i64 kk.2] 31 : Obj) := ⟨_, rfl⟩
          have hbA : Below W.heap.size W (W.alloc OB) := (Below.refl _ _).alloc (Nat.le_refl _) _
          rw [← hOB] at hs
          have tN : Blk W2 W.heap.size 31 #[.int .u64 kk.1, .int .i64 kk.2] := by rw [hOB] at hs; exact (Blk.new W _ _).stays hs
          have H1 := Lib.hid ((HI.out.1.next hbA).stays hs (by have := HW2.out; have := HSZ.out; omega))
          have H2 := Lib.hid (And.intro ((HI.out.2.1.alloc OB).stays hs) (And.intro ((HI.out.2.2.1.alloc OB).stays hs) ((HI.out.2.2.2.1.alloc OB).stays hs)))
          have H10 : Hid (W0.heap.size + 1 < W2.heap.size) := by have := hs.size; simp only [World.size_alloc] at this; exact show _ < _ by omega
          have k0 := tN.get 0 rfl
          have k1 := tN.get 1 rfl
          have x8 := H2.out.2.1.get 0 rfl
          have GET := Lib.hid (ru_get T2 t2 kk W2 H1.out.b.is)
          rw [hget] at GET
          have hd : 1 ≤ 5 := by omega
          clear hs hbA hOB hlt tN hget
          gi_wp2_with (refine ⟨trivial, ?_⟩; gi_at_call 29; with_reducible refine (CallsIn.inRound (W0.heap.size + 1) (callsIn_wide.2 GET.out)).mono ?_; rintro e W3 ⟨rfl, hbn⟩; have HBN := Lib.hid hbn; clear hbn k0 k1 x8)
          exact ⟨(Holds.refl H10.out).next HBN.out, H1.out.next HBN.out, H2.out.1.next HBN.out, H2.out.2.1.next HBN.out, H2.out.2.2.next HBN.out, Nat.le_trans (by have := H10.out; omega) HBN.out.size⟩
        case hdone =>
          rintro W ⟨h1, h2, h3, h4, h5⟩ hD
          have HI := Lib.hid (And.intro h1 (And.intro h3 (And.intro h4 (And.intro h5 hD))))
          clear h1 h2 h3 h4 h5 hD b0 hB0 i1 i2 i3
          have U1 := Lib.hid (ru_upto T1 t4 nm W HI.out.1.a.is)
          go_wp2_with fail
          with_reducible refine (U1.out).mono ?_
          rintro e W1 ⟨rfl, hb1⟩
          have HJ := Lib.hid (And.intro (HI.out.1.next hb1) (And.intro (HI.out.2.1.next hb1) (And.intro (HI.out.2.2.1.next hb1) ((hb1.block _ (Array.getElem?_eq_some_iff.1 HI.out.2.2.2.2).1).trans HI.out.2.2.2.2))))
          have U2 := Lib.hid (ru_upto T2 t2 nm W1 HJ.out.1.b.is)
          rw [HIT.out] at U2
          have x8 := HJ.out.2.1.get 0 rfl
          clear hb1 U1
          go_wp2_with fail
          with_reducible refine (U2.out).mono ?_
          rintro e W2 ⟨rfl, hb2⟩
          have HJ2 := Lib.hid (And.intro (HJ.out.1.next hb2) (And.intro (HJ.out.2.2.1.next hb2) ((hb2.block _ (Array.getElem?_eq_some_iff.1 HJ.out.2.2.2).1).trans HJ.out.2.2.2)))
          have fz := HJ2.out.2.1.frozen 0
          have cz := HJ2.out.2.1.get 0 rfl
          generalize (uptoU nm t4.items).getD 0 = g1
          generalize (uptoU nm t4.items).isSome = g2
          clear hb2 U2 x8
          go_wp2
          refine marks_ret (B := w.heap.size) [W0.heap.size] rfl (by intro D hd; simp only [List.mem_singleton] at hd; subst hd; exact ⟨by have := HW1.out; have := HW2.out; have := HSZ.out; omega, (Below.heap_setCell _ _ _ _ (show W0.heap.size ≠ w.heap.size + 1 by have := HW1.out; have := HW2.out; have := HSZ.out; omega)).trans HJ2.out.2.2⟩) (by simp) ?_
          intro w' hs
          have b4 := (HJ2.out.2.1.put 0 (.bool true)).stays hs
          have n4 : w'.cell? ⟨w.heap.size + 1, 0, none⟩ = some (.bool true) := b4.get 0 rfl
          have b5 := below_stays (((H0.out.2.2.1.trans (HB1.out.mono H0.out.2.2.1.size)).trans (HJ2.out.1.a.below.mono (by have := HW1.out; omega))).setCell (p := ⟨w.heap.size + 1, 0, none⟩) (Nat.le_add_right _ 1) (.bool true)) hs (Nat.le_refl _)
          exact ⟨_, by simp [results, Try.results8, go_sem, n4]; try rfl, rfl, b5⟩

      · rw [hg] at GET
        clear hg
        go_wp2_with fail
        with_reducible refine (GET.out).mono ?_
        rintro e wg ⟨rfl, hbg⟩
        have HTW := Lib.hid (And.intro (HTWR.out.1.next hbg) HITM.out)
        replace HB8 := Lib.hid (HB8.out.next hbg)
        have HBX := Lib.hid (And.intro (HBXO.out.1.next hbg) trivial)
        have HBRG := Lib.hid (HBXO.out.2.next hbg)
        clear hbg GET z0 z1
        go_upto_region 15 with (fail)
        have KQ : Hid (∀ w', Fr ((fun j => wa.heap.size ≤ j ∧ j ≠ wc.heap.size)) wg w' → (w'.cell? ⟨wc.heap.size, 0, none⟩ = some (.pointer (some ⟨T2, 0, none⟩)) ∧ w'.cell? ⟨w.heap.size, 0, none⟩ = some (.int .u64 a1) ∧ w'.cell? ⟨w.heap.size, 1, none⟩ = some (.int .i64 a2) ∧ w'.cell? ⟨w.heap.size, 2, none⟩ = some (.int .u64 av)) ∧ Fr ((fun j => wa.heap.size ≤ j ∧ j ≠ wc.heap.size)) wg w') := fun w' hb => ⟨⟨((HB8.out.fr hb (fun h => h.2 rfl)).get 0 rfl), ((HBX.out.1.fr hb (by have := HW1.out; show ¬ (_ ∧ _); omega)).get 0 rfl), ((HBX.out.1.fr hb (by have := HW1.out; show ¬ (_ ∧ _); omega)).get 1 rfl), ((HBX.out.1.fr hb (by have := HW1.out; show ¬ (_ ∧ _); omega)).get 2 rfl)⟩, hb⟩
        refine wp_region_noPanic ?_
        refine wp_region_held_drew (S := fun w' => (w'.cell? ⟨wc.heap.size, 0, none⟩ = some (.pointer (some ⟨T2, 0, none⟩)) ∧ w'.cell? ⟨w.heap.size, 0, none⟩ = some (.int .u64 a1) ∧ w'.cell? ⟨w.heap.size, 1, none⟩ = some (.int .i64 a2) ∧ w'.cell? ⟨w.heap.size, 2, none⟩ = some (.int .u64 av)) ∧ Fr ((fun j => wa.heap.size ≤ j ∧ j ≠ wc.heap.size)) wg w') (by kernel_rfl) (KQ.out _ (Fr.drew ((Fr.refl (fun j => wa.heap.size ≤ j ∧ j ≠ wc.heap.size) wg)))) (fun hH => ?_)
        have hbR := Fr.drew ((Fr.refl (fun j => wa.heap.size ≤ j ∧ j ≠ wc.heap.size) wg))
        first | (refine wpAnyH_take (i := 0) (v := undef) rfl ?_ ?_ ?_ (fun _ _ _ h => h) ?_ ?_ ?_; kernel_rfl; kernel_rfl; kernel_rfl; exact Or.inr ⟨by rfl, rfl⟩; exact hH) | (refine wpAnyH_take (i := 0) (v := ?_) rfl ?_ ?_ ?_ (fun _ _ _ h => h) ?_ ?_ ?_; rotate_left; kernel_rfl; kernel_rfl; kernel_rfl; (focus (refine Or.inl ⟨by rfl, ?_⟩; intro w' hSw; (try dsimp only at hSw); go_simp)); exact hH) | (refine wpAnyH_take (i := 0) (v := ?_) rfl ?_ ?_ ?_ (fun _ _ _ h => h) ?_ ?_ ?_; rotate_left; kernel_rfl; kernel_rfl; kernel_rfl; (focus (refine Or.inl ⟨by rfl, ?_⟩; intro w' hSw; (try dsimp only at hSw); go_simp; with_reducible rfl)); exact hH)
        try simp only [Act.put, List.getElem_toArray, List.getElem_cons_succ, List.getElem_cons_zero, List.setIfInBounds_toArray, List.set_cons_zero, List.set_cons_succ]
        first | (refine wpAnyH_take (i := 1) (v := undef) rfl ?_ ?_ ?_ (fun _ _ _ h => h) ?_ ?_ ?_; kernel_rfl; kernel_rfl; kernel_rfl; exact Or.inr ⟨by rfl, rfl⟩; exact hH) | (refine wpAnyH_take (i := 1) (v := ?_) rfl ?_ ?_ ?_ (fun _ _ _ h => h) ?_ ?_ ?_; rotate_left; kernel_rfl; kernel_rfl; kernel_rfl; (focus (refine Or.inl ⟨by rfl, ?_⟩; intro w' hSw; (try dsimp only at hSw); go_simp)); exact hH) | (refine wpAnyH_take (i := 1) (v := ?_) rfl ?_ ?_ ?_ (fun _ _ _ h => h) ?_ ?_ ?_; rotate_left; kernel_rfl; kernel_rfl; kernel_rfl; (focus (refine Or.inl ⟨by rfl, ?_⟩; intro w' hSw; (try dsimp only at hSw); go_simp; with_reducible rfl)); exact hH)
        try simp only [Act.put, List.getElem_toArray, List.getElem_cons_succ, List.getElem_cons_zero, List.setIfInBounds_toArray, List.set_cons_zero, List.set_cons_succ]
        first | (refine wpAnyH_take (i := 2) (v := undef) rfl ?_ ?_ ?_ (fun _ _ _ h => h) ?_ ?_ ?_; kernel_rfl; kernel_rfl; kernel_rfl; exact Or.inr ⟨by rfl, rfl⟩; exact hH) | (refine wpAnyH_take (i := 2) (v := ?_) rfl ?_ ?_ ?_ (fun _ _ _ h => h) ?_ ?_ ?_; rotate_left; kernel_rfl; kernel_rfl; kernel_rfl; (focus (refine Or.inl ⟨by rfl, ?_⟩; intro w' hSw; (try dsimp only at hSw); go_simp)); exact hH) | (refine wpAnyH_take (i := 2) (v := ?_) rfl ?_ ?_ ?_ (fun _ _ _ h => h) ?_ ?_ ?_; rotate_left; kernel_rfl; kernel_rfl; kernel_rfl; (focus (refine Or.inl ⟨by rfl, ?_⟩; intro w' hSw; (try dsimp only at hSw); go_simp; with_reducible rfl)); exact hH)
        try simp only [Act.put, List.getElem_toArray, List.getElem_cons_succ, List.getElem_cons_zero, List.setIfInBounds_toArray, List.set_cons_zero, List.set_cons_succ]
        first | (refine wpAnyH_take (i := 3) (v := undef) rfl ?_ ?_ ?_ (fun _ _ _ h => h) ?_ ?_ ?_; kernel_rfl; kernel_rfl; kernel_rfl; exact Or.inr ⟨by rfl, rfl⟩; exact hH) | (refine wpAnyH_take (i := 3) (v := ?_) rfl ?_ ?_ ?_ (fun _ _ _ h => h) ?_ ?_ ?_; rotate_left; kernel_rfl; kernel_rfl; kernel_rfl; (focus (refine Or.inl ⟨by rfl, ?_⟩; intro w' hSw; (try dsimp only at hSw); go_simp)); exact hH) | (refine wpAnyH_take (i := 3) (v := ?_) rfl ?_ ?_ ?_ (fun _ _ _ h => h) ?_ ?_ ?_; rotate_left; kernel_rfl; kernel_rfl; kernel_rfl; (focus (refine Or.inl ⟨by rfl, ?_⟩; intro w' hSw; (try dsimp only at hSw); go_simp; with_reducible rfl)); exact hH)
        try simp only [Act.put, List.getElem_toArray, List.getElem_cons_succ, List.getElem_cons_zero, List.setIfInBounds_toArray, List.set_cons_zero, List.set_cons_succ]
        first | (refine wpAnyH_take (i := 4) (v := undef) rfl ?_ ?_ ?_ (fun _ _ _ h => h) ?_ ?_ ?_; kernel_rfl; kernel_rfl; kernel_rfl; exact Or.inr ⟨by rfl, rfl⟩; exact hH) | (refine wpAnyH_take (i := 4) (v := ?_) rfl ?_ ?_ ?_ (fun _ _ _ h => h) ?_ ?_ ?_; rotate_left; kernel_rfl; kernel_rfl; kernel_rfl; (focus (refine Or.inl ⟨by rfl, ?_⟩; intro w' hSw; (try dsimp only at hSw); go_simp)); exact hH) | (refine wpAnyH_take (i := 4) (v := ?_) rfl ?_ ?_ ?_ (fun _ _ _ h => h) ?_ ?_ ?_; rotate_left; kernel_rfl; kernel_rfl; kernel_rfl; (focus (refine Or.inl ⟨by rfl, ?_⟩; intro w' hSw; (try dsimp only at hSw); go_simp; with_reducible rfl)); exact hH)
        try simp only [Act.put, List.getElem_toArray, List.getElem_cons_succ, List.getElem_cons_zero, List.setIfInBounds_toArray, List.set_cons_zero, List.set_cons_succ]
        first | (refine wpAnyH_take (i := 5) (v := undef) rfl ?_ ?_ ?_ (fun _ _ _ h => h) ?_ ?_ ?_; kernel_rfl; kernel_rfl; kernel_rfl; exact Or.inr ⟨by rfl, rfl⟩; exact hH) | (refine wpAnyH_take (i := 5) (v := ?_) rfl ?_ ?_ ?_ (fun _ _ _ h => h) ?_ ?_ ?_; rotate_left; kernel_rfl; kernel_rfl; kernel_rfl; (focus (refine Or.inl ⟨by rfl, ?_⟩; intro w' hSw; (try dsimp only at hSw); go_simp)); exact hH) | (refine wpAnyH_take (i := 5) (v := ?_) rfl ?_ ?_ ?_ (fun _ _ _ h => h) ?_ ?_ ?_; rotate_left; kernel_rfl; kernel_rfl; kernel_rfl; (focus (refine Or.inl ⟨by rfl, ?_⟩; intro w' hSw; (try dsimp only at hSw); go_simp; with_reducible rfl)); exact hH)
        try simp only [Act.put, List.getElem_toArray, List.getElem_cons_succ, List.getElem_cons_zero, List.setIfInBounds_toArray, List.set_cons_zero, List.set_cons_succ]
        first | (refine wpAnyH_take (i := 6) (v := undef) rfl ?_ ?_ ?_ (fun _ _ _ h => h) ?_ ?_ ?_; kernel_rfl; kernel_rfl; kernel_rfl; exact Or.inr ⟨by rfl, rfl⟩; exact hH) | (refine wpAnyH_take (i := 6) (v := ?_) rfl ?_ ?_ ?_ (fun _ _ _ h => h) ?_ ?_ ?_; rotate_left; kernel_rfl; kernel_rfl; kernel_rfl; (focus (refine Or.inl ⟨by rfl, ?_⟩; intro w' hSw; (try dsimp only at hSw); go_simp)); exact hH) | (refine wpAnyH_take (i := 6) (v := ?_) rfl ?_ ?_ ?_ (fun _ _ _ h => h) ?_ ?_ ?_; rotate_left; kernel_rfl; kernel_rfl; kernel_rfl; (focus (refine Or.inl ⟨by rfl, ?_⟩; intro w' hSw; (try dsimp only at hSw); go_simp; with_reducible rfl)); exact hH)
        try simp only [Act.put, List.getElem_toArray, List.getElem_cons_succ, List.getElem_cons_zero, List.setIfInBounds_toArray, List.set_cons_zero, List.set_cons_succ]
        first | (refine wpAnyH_take (i := 7) (v := undef) rfl ?_ ?_ ?_ (fun _ _ _ h => h) ?_ ?_ ?_; kernel_rfl; kernel_rfl; kernel_rfl; exact Or.inr ⟨by rfl, rfl⟩; exact hH) | (refine wpAnyH_take (i := 7) (v := ?_) rfl ?_ ?_ ?_ (fun _ _ _ h => h) ?_ ?_ ?_; rotate_left; kernel_rfl; kernel_rfl; kernel_rfl; (focus (refine Or.inl ⟨by rfl, ?_⟩; intro w' hSw; (try dsimp only at hSw); go_simp)); exact hH) | (refine wpAnyH_take (i := 7) (v := ?_) rfl ?_ ?_ ?_ (fun _ _ _ h => h) ?_ ?_ ?_; rotate_left; kernel_rfl; kernel_rfl; kernel_rfl; (focus (refine Or.inl ⟨by rfl, ?_⟩; intro w' hSw; (try dsimp only at hSw); go_simp; with_reducible rfl)); exact hH)
        try simp only [Act.put, List.getElem_toArray, List.getElem_cons_succ, List.getElem_cons_zero, List.setIfInBounds_toArray, List.set_cons_zero, List.set_cons_succ]
        first | (refine wpAnyH_take (i := 8) (v := undef) rfl ?_ ?_ ?_ (fun _ _ _ h => h) ?_ ?_ ?_; kernel_rfl; kernel_rfl; kernel_rfl; exact Or.inr ⟨by rfl, rfl⟩; exact hH) | (refine wpAnyH_take (i := 8) (v := ?_) rfl ?_ ?_ ?_ (fun _ _ _ h => h) ?_ ?_ ?_; rotate_left; kernel_rfl; kernel_rfl; kernel_rfl; (focus (refine Or.inl ⟨by rfl, ?_⟩; intro w' hSw; (try dsimp only at hSw); go_simp)); exact hH) | (refine wpAnyH_take (i := 8) (v := ?_) rfl ?_ ?_ ?_ (fun _ _ _ h => h) ?_ ?_ ?_; rotate_left; kernel_rfl; kernel_rfl; kernel_rfl; (focus (refine Or.inl ⟨by rfl, ?_⟩; intro w' hSw; (try dsimp only at hSw); go_simp; with_reducible rfl)); exact hH)
        try simp only [Act.put, List.getElem_toArray, List.getElem_cons_succ, List.getElem_cons_zero, List.setIfInBounds_toArray, List.set_cons_zero, List.set_cons_succ]
        first | (refine wpAnyH_take (i := 9) (v := undef) rfl ?_ ?_ ?_ (fun _ _ _ h => h) ?_ ?_ ?_; kernel_rfl; kernel_rfl; kernel_rfl; exact Or.inr ⟨by rfl, rfl⟩; exact hH) | (refine wpAnyH_take (i := 9) (v := ?_) rfl ?_ ?_ ?_ (fun _ _ _ h => h) ?_ ?_ ?_; rotate_left; kernel_rfl; kernel_rfl; kernel_rfl; (focus (refine Or.inl ⟨by rfl, ?_⟩; intro w' hSw; (try dsimp only at hSw); go_simp)); exact hH) | (refine wpAnyH_take (i := 9) (v := ?_) rfl ?_ ?_ ?_ (fun _ _ _ h => h) ?_ ?_ ?_; rotate_left; kernel_rfl; kernel_rfl; kernel_rfl; (focus (refine Or.inl ⟨by rfl, ?_⟩; intro w' hSw; (try dsimp only at hSw); go_simp; with_reducible rfl)); exact hH)
        try simp only [Act.put, List.getElem_toArray, List.getElem_cons_succ, List.getElem_cons_zero, List.setIfInBounds_toArray, List.set_cons_zero, List.set_cons_succ]
        first | (refine wpAnyH_take (i := 10) (v := undef) rfl ?_ ?_ ?_ (fun _ _ _ h => h) ?_ ?_ ?_; kernel_rfl; kernel_rfl; kernel_rfl; exact Or.inr ⟨by rfl, rfl⟩; exact hH) | (refine wpAnyH_take (i := 10) (v := ?_) rfl ?_ ?_ ?_ (fun _ _ _ h => h) ?_ ?_ ?_; rotate_left; kernel_rfl; kernel_rfl; kernel_rfl; (focus (refine Or.inl ⟨by rfl, ?_⟩; intro w' hSw; (try dsimp only at hSw); go_simp)); exact hH) | (refine wpAnyH_take (i := 10) (v := ?_) rfl ?_ ?_ ?_ (fun _ _ _ h => h) ?_ ?_ ?_; rotate_left; kernel_rfl; kernel_rfl; kernel_rfl; (focus (refine Or.inl ⟨by rfl, ?_⟩; intro w' hSw; (try dsimp only at hSw); go_simp; with_reducible rfl)); exact hH)
        try simp only [Act.put, List.getElem_toArray, List.getElem_cons_succ, List.getElem_cons_zero, List.setIfInBounds_toArray, List.set_cons_zero, List.set_cons_succ]
        first | (refine wpAnyH_take (i := 11) (v := undef) rfl ?_ ?_ ?_ (fun _ _ _ h => h) ?_ ?_ ?_; kernel_rfl; kernel_rfl; kernel_rfl; exact Or.inr ⟨by rfl, rfl⟩; exact hH) | (refine wpAnyH_take (i := 11) (v := ?_) rfl ?_ ?_ ?_ (fun _ _ _ h => h) ?_ ?_ ?_; rotate_left; kernel_rfl; kernel_rfl; kernel_rfl; (focus (refine Or.inl ⟨by rfl, ?_⟩; intro w' hSw; (try dsimp only at hSw); go_simp)); exact hH) | (refine wpAnyH_take (i := 11) (v := ?_) rfl ?_ ?_ ?_ (fun _ _ _ h => h) ?_ ?_ ?_; rotate_left; kernel_rfl; kernel_rfl; kernel_rfl; (focus (refine Or.inl ⟨by rfl, ?_⟩; intro w' hSw; (try dsimp only at hSw); go_simp; with_reducible rfl)); exact hH)
        try simp only [Act.put, List.getElem_toArray, List.getElem_cons_succ, List.getElem_cons_zero, List.setIfInBounds_toArray, List.set_cons_zero, List.set_cons_succ]
        first | (refine wpAnyH_take (i := 12) (v := undef) rfl ?_ ?_ ?_ (fun _ _ _ h => h) ?_ ?_ ?_; kernel_rfl; kernel_rfl; kernel_rfl; exact Or.inr ⟨by rfl, rfl⟩; exact hH) | (refine wpAnyH_take (i := 12) (v := ?_) rfl ?_ ?_ ?_ (fun _ _ _ h => h) ?_ ?_ ?_; rotate_left; kernel_rfl; kernel_rfl; kernel_rfl; (focus (refine Or.inl ⟨by rfl, ?_⟩; intro w' hSw; (try dsimp only at hSw); go_simp)); exact hH) | (refine wpAnyH_take (i := 12) (v := ?_) rfl ?_ ?_ ?_ (fun _ _ _ h => h) ?_ ?_ ?_; rotate_left; kernel_rfl; kernel_rfl; kernel_rfl; (focus (refine Or.inl ⟨by rfl, ?_⟩; intro w' hSw; (try dsimp only at hSw); go_simp; with_reducible rfl)); exact hH)
        try simp only [Act.put, List.getElem_toArray, List.getElem_cons_succ, List.getElem_cons_zero, List.setIfInBounds_toArray, List.set_cons_zero, List.set_cons_succ]
        first | (refine wpAnyH_take (i := 13) (v := undef) rfl ?_ ?_ ?_ (fun _ _ _ h => h) ?_ ?_ ?_; kernel_rfl; kernel_rfl; kernel_rfl; exact Or.inr ⟨by rfl, rfl⟩; exact hH) | (refine wpAnyH_take (i := 13) (v := ?_) rfl ?_ ?_ ?_ (fun _ _ _ h => h) ?_ ?_ ?_; rotate_left; kernel_rfl; kernel_rfl; kernel_rfl; (focus (refine Or.inl ⟨by rfl, ?_⟩; intro w' hSw; (try dsimp only at hSw); go_simp)); exact hH) | (refine wpAnyH_take (i := 13) (v := ?_) rfl ?_ ?_ ?_ (fun _ _ _ h => h) ?_ ?_ ?_; rotate_left; kernel_rfl; kernel_rfl; kernel_rfl; (focus (refine Or.inl ⟨by rfl, ?_⟩; intro w' hSw; (try dsimp only at hSw); go_simp; with_reducible rfl)); exact hH)
        try simp only [Act.put, List.getElem_toArray, List.getElem_cons_succ, List.getElem_cons_zero, List.setIfInBounds_toArray, List.set_cons_zero, List.set_cons_succ]
        first | (refine wpAnyH_take (i := 14) (v := undef) rfl ?_ ?_ ?_ (fun _ _ _ h => h) ?_ ?_ ?_; kernel_rfl; kernel_rfl; kernel_rfl; exact Or.inr ⟨by rfl, rfl⟩; exact hH) | (refine wpAnyH_take (i := 14) (v := ?_) rfl ?_ ?_ ?_ (fun _ _ _ h => h) ?_ ?_ ?_; rotate_left; kernel_rfl; kernel_rfl; kernel_rfl; (focus (refine Or.inl ⟨by rfl, ?_⟩; intro w' hSw; (try dsimp only at hSw); go_simp)); exact hH) | (refine wpAnyH_take (i := 14) (v := ?_) rfl ?_ ?_ ?_ (fun _ _ _ h => h) ?_ ?_ ?_; rotate_left; kernel_rfl; kernel_rfl; kernel_rfl; (focus (refine Or.inl ⟨by rfl, ?_⟩; intro w' hSw; (try dsimp only at hSw); go_simp; with_reducible rfl)); exact hH)
        try simp only [Act.put, List.getElem_toArray, List.getElem_cons_succ, List.getElem_cons_zero, List.setIfInBounds_toArray, List.set_cons_zero, List.set_cons_succ]
        first | (refine wpAnyH_take (i := 15) (v := undef) rfl ?_ ?_ ?_ (fun _ _ _ h => h) ?_ ?_ ?_; kernel_rfl; kernel_rfl; kernel_rfl; exact Or.inr ⟨by rfl, rfl⟩; exact hH) | (refine wpAnyH_take (i := 15) (v := ?_) rfl ?_ ?_ ?_ (fun _ _ _ h => h) ?_ ?_ ?_; rotate_left; kernel_rfl; kernel_rfl; kernel_rfl; (focus (refine Or.inl ⟨by rfl, ?_⟩; intro w' hSw; (try dsimp only at hSw); go_simp)); exact hH) | (refine wpAnyH_take (i := 15) (v := ?_) rfl ?_ ?_ ?_ (fun _ _ _ h => h) ?_ ?_ ?_; rotate_left; kernel_rfl; kernel_rfl; kernel_rfl; (focus (refine Or.inl ⟨by rfl, ?_⟩; intro w' hSw; (try dsimp only at hSw); go_simp; with_reducible rfl)); exact hH)
        try simp only [Act.put, List.getElem_toArray, List.getElem_cons_succ, List.getElem_cons_zero, List.setIfInBounds_toArray, List.set_cons_zero, List.set_cons_succ]
        first | (refine wpAnyH_take (i := 16) (v := undef) rfl ?_ ?_ ?_ (fun _ _ _ h => h) ?_ ?_ ?_; kernel_rfl; kernel_rfl; kernel_rfl; exact Or.inr ⟨by rfl, rfl⟩; exact hH) | (refine wpAnyH_take (i := 16) (v := ?_) rfl ?_ ?_ ?_ (fun _ _ _ h => h) ?_ ?_ ?_; rotate_left; kernel_rfl; kernel_rfl; kernel_rfl; (focus (refine Or.inl ⟨by rfl, ?_⟩; intro w' hSw; (try dsimp only at hSw); go_simp)); exact hH) | (refine wpAnyH_take (i := 16) (v := ?_) rfl ?_ ?_ ?_ (fun _ _ _ h => h) ?_ ?_ ?_; rotate_left; kernel_rfl; kernel_rfl; kernel_rfl; (focus (refine Or.inl ⟨by rfl, ?_⟩; intro w' hSw; (try dsimp only at hSw); go_simp; with_reducible rfl)); exact hH)
        try simp only [Act.put, List.getElem_toArray, List.getElem_cons_succ, List.getElem_cons_zero, List.setIfInBounds_toArray, List.set_cons_zero, List.set_cons_succ]
        first | (refine wpAnyH_take (i := 17) (v := undef) rfl ?_ ?_ ?_ (fun _ _ _ h => h) ?_ ?_ ?_; kernel_rfl; kernel_rfl; kernel_rfl; exact Or.inr ⟨by rfl, rfl⟩; exact hH) | (refine wpAnyH_take (i := 17) (v := ?_) rfl ?_ ?_ ?_ (fun _ _ _ h => h) ?_ ?_ ?_; rotate_left; kernel_rfl; kernel_rfl; kernel_rfl; (focus (refine Or.inl ⟨by rfl, ?_⟩; intro w' hSw; (try dsimp only at hSw); go_simp)); exact hH) | (refine wpAnyH_take (i := 17) (v := ?_) rfl ?_ ?_ ?_ (fun _ _ _ h => h) ?_ ?_ ?_; rotate_left; kernel_rfl; kernel_rfl; kernel_rfl; (focus (refine Or.inl ⟨by rfl, ?_⟩; intro w' hSw; (try dsimp only at hSw); go_simp; with_reducible rfl)); exact hH)
        try simp only [Act.put, List.getElem_toArray, List.getElem_cons_succ, List.getElem_cons_zero, List.setIfInBounds_toArray, List.set_cons_zero, List.set_cons_succ]
        first | (refine wpAnyH_take (i := 18) (v := undef) rfl ?_ ?_ ?_ (fun _ _ _ h => h) ?_ ?_ ?_; kernel_rfl; kernel_rfl; kernel_rfl; exact Or.inr ⟨by rfl, rfl⟩; exact hH) | (refine wpAnyH_take (i := 18) (v := ?_) rfl ?_ ?_ ?_ (fun _ _ _ h => h) ?_ ?_ ?_; rotate_left; kernel_rfl; kernel_rfl; kernel_rfl; (focus (refine Or.inl ⟨by rfl, ?_⟩; intro w' hSw; (try dsimp only at hSw); go_simp)); exact hH) | (refine wpAnyH_take (i := 18) (v := ?_) rfl ?_ ?_ ?_ (fun _ _ _ h => h) ?_ ?_ ?_; rotate_left; kernel_rfl; kernel_rfl; kernel_rfl; (focus (refine Or.inl ⟨by rfl, ?_⟩; intro w' hSw; (try dsimp only at hSw); go_simp; with_reducible rfl)); exact hH)
        try simp only [Act.put, List.getElem_toArray, List.getElem_cons_succ, List.getElem_cons_zero, List.setIfInBounds_toArray, List.set_cons_zero, List.set_cons_succ]
        first | (refine wpAnyH_take (i := 19) (v := undef) rfl ?_ ?_ ?_ (fun _ _ _ h => h) ?_ ?_ ?_; kernel_rfl; kernel_rfl; kernel_rfl; exact Or.inr ⟨by rfl, rfl⟩; exact hH) | (refine wpAnyH_take (i := 19) (v := ?_) rfl ?_ ?_ ?_ (fun _ _ _ h => h) ?_ ?_ ?_; rotate_left; kernel_rfl; kernel_rfl; kernel_rfl; (focus (refine Or.inl ⟨by rfl, ?_⟩; intro w' hSw; (try dsimp only at hSw); go_simp)); exact hH) | (refine wpAnyH_take (i := 19) (v := ?_) rfl ?_ ?_ ?_ (fun _ _ _ h => h) ?_ ?_ ?_; rotate_left; kernel_rfl; kernel_rfl; kernel_rfl; (focus (refine Or.inl ⟨by rfl, ?_⟩; intro w' hSw; (try dsimp only at hSw); go_simp; with_reducible rfl)); exact hH)
        try simp only [Act.put, List.getElem_toArray, List.getElem_cons_succ, List.getElem_cons_zero, List.setIfInBounds_toArray, List.set_cons_zero, List.set_cons_succ]
        first | (refine wpAnyH_take (i := 21) (v := undef) rfl ?_ ?_ ?_ (fun _ _ _ h => h) ?_ ?_ ?_; kernel_rfl; kernel_rfl; kernel_rfl; exact Or.inr ⟨by rfl, rfl⟩; exact hH) | (refine wpAnyH_take (i := 21) (v := ?_) rfl ?_ ?_ ?_ (fun _ _ _ h => h) ?_ ?_ ?_; rotate_left; kernel_rfl; kernel_rfl; kernel_rfl; (focus (refine Or.inl ⟨by rfl, ?_⟩; intro w' hSw; (try dsimp only at hSw); go_simp)); exact hH) | (refine wpAnyH_take (i := 21) (v := ?_) rfl ?_ ?_ ?_ (fun _ _ _ h => h) ?_ ?_ ?_; rotate_left; kernel_rfl; kernel_rfl; kernel_rfl; (focus (refine Or.inl ⟨by rfl, ?_⟩; intro w' hSw; (try dsimp only at hSw); go_simp; with_reducible rfl)); exact hH)
        try simp only [Act.put, List.getElem_toArray, List.getElem_cons_succ, List.getElem_cons_zero, List.setIfInBounds_toArray, List.set_cons_zero, List.set_cons_succ]
        refine wpAnyH_ready (rs := [20]) (by kernel_rfl) (by simp) ?_
        refine (AllReadyH.cons rfl (fun K hK => ?_) AllReadyH.nil)
        go_simp
        with_reducible refine (ru_len T1 t1 _ ((HTW.out.1.next (below_of_drew (Below.refl wg.heap.size wg)))).a.is).mono ?_
        rintro e w1 ⟨rfl, hb1⟩
        rw [HLN1.out]
        have fr1 : Fr (fun j => wa.heap.size ≤ j ∧ j ≠ wc.heap.size) wg w1 := hH.2.trans (Fr.of_new hb1)
        have HA20 := Lib.hid (((HTW.out.1.next (below_of_drew (Below.refl wg.heap.size wg)))).next hb1)
        clear hb1
        refine hK.out _ _ (KQ.out _ fr1) (fun hH1 => ?_)
        clear hK K hH
        have hH := hH1
        clear hH1
        try simp only [Act.put, List.getElem_toArray, List.getElem_cons_succ, List.getElem_cons_zero, List.setIfInBounds_toArray, List.set_cons_zero, List.set_cons_succ]
        refine wpAnyH_ready (rs := [22]) (by kernel_rfl) (by simp) ?_
        refine (AllReadyH.cons rfl (fun K hK => ?_) AllReadyH.nil)
        go_simp
        with_reducible refine (ru_len T2 t2 _ HA20.out.b.is).mono ?_
        rintro e w2 ⟨rfl, hb2⟩
        rw [HLN2.out]
        have fr2 : Fr (fun j => wa.heap.size ≤ j ∧ j ≠ wc.heap.size) wg w2 := hH.2.trans (Fr.of_new hb2)
        have HA22 := Lib.hid ((HA20.out).next hb2)
        clear hb2
        refine hK.out _ _ (KQ.out _ fr2) (fun hH2 => ?_)
        clear hK K hH
        have hH := hH2
        clear hH2
        try simp only [Act.put, List.getElem_toArray, List.getElem_cons_succ, List.getElem_cons_zero, List.setIfInBounds_toArray, List.set_cons_zero, List.set_cons_succ]
        first | (refine wpAnyH_take (i := 23) (v := undef) rfl ?_ ?_ ?_ (fun _ _ _ h => h) ?_ ?_ ?_; kernel_rfl; kernel_rfl; kernel_rfl; exact Or.inr ⟨by rfl, rfl⟩; exact hH) | (refine wpAnyH_take (i := 23) (v := ?_) rfl ?_ ?_ ?_ (fun _ _ _ h => h) ?_ ?_ ?_; rotate_left; kernel_rfl; kernel_rfl; kernel_rfl; (focus (refine Or.inl ⟨by rfl, ?_⟩; intro w' hSw; (try dsimp only at hSw); go_simp)); exact hH) | (refine wpAnyH_take (i := 23) (v := ?_) rfl ?_ ?_ ?_ (fun _ _ _ h => h) ?_ ?_ ?_; rotate_left; kernel_rfl; kernel_rfl; kernel_rfl; (focus (refine Or.inl ⟨by rfl, ?_⟩; intro w' hSw; (try dsimp only at hSw); go_simp; with_reducible rfl)); exact hH)
        try simp only [Act.put, List.getElem_toArray, List.getElem_cons_succ, List.getElem_cons_zero, List.setIfInBounds_toArray, List.set_cons_zero, List.set_cons_succ]
        first | (refine wpAnyH_take (i := 24) (v := undef) rfl ?_ ?_ ?_ (fun _ _ _ h => h) ?_ ?_ ?_; kernel_rfl; kernel_rfl; kernel_rfl; exact Or.inr ⟨by rfl, rfl⟩; exact hH) | (refine wpAnyH_take (i := 24) (v := ?_) rfl ?_ ?_ ?_ (fun _ _ _ h => h) ?_ ?_ ?_; rotate_left; kernel_rfl; kernel_rfl; kernel_rfl; (focus (refine Or.inl ⟨by rfl, ?_⟩; intro w' hSw; (try dsimp only at hSw); go_simp)); exact hH) | (refine wpAnyH_take (i := 24) (v := ?_) rfl ?_ ?_ ?_ (fun _ _ _ h => h) ?_ ?_ ?_; rotate_left; kernel_rfl; kernel_rfl; kernel_rfl; (focus (refine Or.inl ⟨by rfl, ?_⟩; intro w' hSw; (try dsimp only at hSw); go_simp; with_reducible rfl)); exact hH)
        try simp only [Act.put, List.getElem_toArray, List.getElem_cons_succ, List.getElem_cons_zero, List.setIfInBounds_toArray, List.set_cons_zero, List.set_cons_succ]
        first | (refine wpAnyH_take (i := 25) (v := undef) rfl ?_ ?_ ?_ (fun _ _ _ h => h) ?_ ?_ ?_; kernel_rfl; kernel_rfl; kernel_rfl; exact Or.inr ⟨by rfl, rfl⟩; exact hH) | (refine wpAnyH_take (i := 25) (v := ?_) rfl ?_ ?_ ?_ (fun _ _ _ h => h) ?_ ?_ ?_; rotate_left; kernel_rfl; kernel_rfl; kernel_rfl; (focus (refine Or.inl ⟨by rfl, ?_⟩; intro w' hSw; (try dsimp only at hSw); go_simp)); exact hH) | (refine wpAnyH_take (i := 25) (v := ?_) rfl ?_ ?_ ?_ (fun _ _ _ h => h) ?_ ?_ ?_; rotate_left; kernel_rfl; kernel_rfl; kernel_rfl; (focus (refine Or.inl ⟨by rfl, ?_⟩; intro w' hSw; (try dsimp only at hSw); go_simp; with_reducible rfl)); exact hH)
        try simp only [Act.put, List.getElem_toArray, List.getElem_cons_succ, List.getElem_cons_zero, List.setIfInBounds_toArray, List.set_cons_zero, List.set_cons_succ]
        first | (refine wpAnyH_take (i := 26) (v := undef) rfl ?_ ?_ ?_ (fun _ _ _ h => h) ?_ ?_ ?_; kernel_rfl; kernel_rfl; kernel_rfl; exact Or.inr ⟨by rfl, rfl⟩; exact hH) | (refine wpAnyH_take (i := 26) (v := ?_) rfl ?_ ?_ ?_ (fun _ _ _ h => h) ?_ ?_ ?_; rotate_left; kernel_rfl; kernel_rfl; kernel_rfl; (focus (refine Or.inl ⟨by rfl, ?_⟩; intro w' hSw; (try dsimp only at hSw); go_simp)); exact hH) | (refine wpAnyH_take (i := 26) (v := ?_) rfl ?_ ?_ ?_ (fun _ _ _ h => h) ?_ ?_ ?_; rotate_left; kernel_rfl; kernel_rfl; kernel_rfl; (focus (refine Or.inl ⟨by rfl, ?_⟩; intro w' hSw; (try dsimp only at hSw); go_simp; with_reducible rfl)); exact hH)
        try simp only [Act.put, List.getElem_toArray, List.getElem_cons_succ, List.getElem_cons_zero, List.setIfInBounds_toArray, List.set_cons_zero, List.set_cons_succ]
        refine wpAnyH_ready (rs := [27]) (by kernel_rfl) (by simp) ?_
        refine (AllReadyH.cons rfl (fun K hK => ?_) AllReadyH.nil)
        go_simp
        with_reducible refine (ru_Well T1 t1 _ HA22.out.a.is (HSZ1.out)).mono ?_
        rintro e w3 ⟨rfl, hb3⟩
        have fr3 : Fr (fun j => wa.heap.size ≤ j ∧ j ≠ wc.heap.size) wg w3 := hH.2.trans (Fr.of_new hb3)
        have HA27 := Lib.hid ((HA22.out).next hb3)
        clear hb3
        refine hK.out _ _ (KQ.out _ fr3) (fun hH3 => ?_)
        clear hK K hH
        have hH := hH3
        clear hH3
        try simp only [Act.put, List.getElem_toArray, List.getElem_cons_succ, List.getElem_cons_zero, List.setIfInBounds_toArray, List.set_cons_zero, List.set_cons_succ]
        first | (refine wpAnyH_take (i := 28) (v := undef) rfl ?_ ?_ ?_ (fun _ _ _ h => h) ?_ ?_ ?_; kernel_rfl; kernel_rfl; kernel_rfl; exact Or.inr ⟨by rfl, rfl⟩; exact hH) | (refine wpAnyH_take (i := 28) (v := ?_) rfl ?_ ?_ ?_ (fun _ _ _ h => h) ?_ ?_ ?_; rotate_left; kernel_rfl; kernel_rfl; kernel_rfl; (focus (refine Or.inl ⟨by rfl, ?_⟩; intro w' hSw; (try dsimp only at hSw); go_simp)); exact hH) | (refine wpAnyH_take (i := 28) (v := ?_) rfl ?_ ?_ ?_ (fun _ _ _ h => h) ?_ ?_ ?_; rotate_left; kernel_rfl; kernel_rfl; kernel_rfl; (focus (refine Or.inl ⟨by rfl, ?_⟩; intro w' hSw; (try dsimp only at hSw); go_simp; with_reducible rfl)); exact hH)
        try simp only [Act.put, List.getElem_toArray, List.getElem_cons_succ, List.getElem_cons_zero, List.setIfInBounds_toArray, List.set_cons_zero, List.set_cons_succ]
        first | (refine wpAnyH_take (i := 29) (v := undef) rfl ?_ ?_ ?_ (fun _ _ _ h => h) ?_ ?_ ?_; kernel_rfl; kernel_rfl; kernel_rfl; exact Or.inr ⟨by rfl, rfl⟩; exact hH) | (refine wpAnyH_take (i := 29) (v := ?_) rfl ?_ ?_ ?_ (fun _ _ _ h => h) ?_ ?_ ?_; rotate_left; kernel_rfl; kernel_rfl; kernel_rfl; (focus (refine Or.inl ⟨by rfl, ?_⟩; intro w' hSw; (try dsimp only at hSw); go_simp)); exact hH) | (refine wpAnyH_take (i := 29) (v := ?_) rfl ?_ ?_ ?_ (fun _ _ _ h => h) ?_ ?_ ?_; rotate_left; kernel_rfl; kernel_rfl; kernel_rfl; (focus (refine Or.inl ⟨by rfl, ?_⟩; intro w' hSw; (try dsimp only at hSw); go_simp; with_reducible rfl)); exact hH)
        try simp only [Act.put, List.getElem_toArray, List.getElem_cons_succ, List.getElem_cons_zero, List.setIfInBounds_toArray, List.set_cons_zero, List.set_cons_succ]
        first | (refine wpAnyH_take (i := 30) (v := undef) rfl ?_ ?_ ?_ (fun _ _ _ h => h) ?_ ?_ ?_; kernel_rfl; kernel_rfl; kernel_rfl; exact Or.inr ⟨by rfl, rfl⟩; exact hH) | (refine wpAnyH_take (i := 30) (v := ?_) rfl ?_ ?_ ?_ (fun _ _ _ h => h) ?_ ?_ ?_; rotate_left; kernel_rfl; kernel_rfl; kernel_rfl; (focus (refine Or.inl ⟨by rfl, ?_⟩; intro w' hSw; (try dsimp only at hSw); go_simp)); exact hH) | (refine wpAnyH_take (i := 30) (v := ?_) rfl ?_ ?_ ?_ (fun _ _ _ h => h) ?_ ?_ ?_; rotate_left; kernel_rfl; kernel_rfl; kernel_rfl; (focus (refine Or.inl ⟨by rfl, ?_⟩; intro w' hSw; (try dsimp only at hSw); go_simp; with_reducible rfl)); exact hH)
        try simp only [Act.put, List.getElem_toArray, List.getElem_cons_succ, List.getElem_cons_zero, List.setIfInBounds_toArray, List.set_cons_zero, List.set_cons_succ]
        first | (refine wpAnyH_take (i := 31) (v := undef) rfl ?_ ?_ ?_ (fun _ _ _ h => h) ?_ ?_ ?_; kernel_rfl; kernel_rfl; kernel_rfl; exact Or.inr ⟨by rfl, rfl⟩; exact hH) | (refine wpAnyH_take (i := 31) (v := ?_) rfl ?_ ?_ ?_ (fun _ _ _ h => h) ?_ ?_ ?_; rotate_left; kernel_rfl; kernel_rfl; kernel_rfl; (focus (refine Or.inl ⟨by rfl, ?_⟩; intro w' hSw; (try dsimp only at hSw); go_simp)); exact hH) | (refine wpAnyH_take (i := 31) (v := ?_) rfl ?_ ?_ ?_ (fun _ _ _ h => h) ?_ ?_ ?_; rotate_left; kernel_rfl; kernel_rfl; kernel_rfl; (focus (refine Or.inl ⟨by rfl, ?_⟩; intro w' hSw; (try dsimp only at hSw); go_simp; with_reducible rfl)); exact hH)
        try simp only [Act.put, List.getElem_toArray, List.getElem_cons_succ, List.getElem_cons_zero, List.setIfInBounds_toArray, List.set_cons_zero, List.set_cons_succ]
        refine wpAnyH_ready (rs := [32]) (by kernel_rfl) (by simp) ?_
        refine (AllReadyH.cons rfl (fun K hK => ?_) AllReadyH.nil)
        go_simp
        with_reducible refine (ru_Well T2 t2 _ HA27.out.b.is HSZ2.out).mono ?_
        rintro e w4 ⟨rfl, hb4⟩
        have fr4 : Fr (fun j => wa.heap.size ≤ j ∧ j ≠ wc.heap.size) wg w4 := hH.2.trans (Fr.of_new hb4)
        have HA32 := Lib.hid ((HA27.out).next hb4)
        clear hb4
        refine hK.out _ _ (KQ.out _ fr4) (fun hH4 => ?_)
        clear hK K hH
        have hH := hH4
        clear hH4
        try simp only [Act.put, List.getElem_toArray, List.getElem_cons_succ, List.getElem_cons_zero, List.setIfInBounds_toArray, List.set_cons_zero, List.set_cons_succ]
        first | (refine wpAnyH_take (i := 33) (v := undef) rfl ?_ ?_ ?_ (fun _ _ _ h => h) ?_ ?_ ?_; kernel_rfl; kernel_rfl; kernel_rfl; exact Or.inr ⟨by rfl, rfl⟩; exact hH) | (refine wpAnyH_take (i := 33) (v := ?_) rfl ?_ ?_ ?_ (fun _ _ _ h => h) ?_ ?_ ?_; rotate_left; kernel_rfl; kernel_rfl; kernel_rfl; (focus (refine Or.inl ⟨by rfl, ?_⟩; intro w' hSw; (try dsimp only at hSw); go_simp)); exact hH) | (refine wpAnyH_take (i := 33) (v := ?_) rfl ?_ ?_ ?_ (fun _ _ _ h => h) ?_ ?_ ?_; rotate_left; kernel_rfl; kernel_rfl; kernel_rfl; (focus (refine Or.inl ⟨by rfl, ?_⟩; intro w' hSw; (try dsimp only at hSw); go_simp; with_reducible rfl)); exact hH)
        try simp only [Act.put, List.getElem_toArray, List.getElem_cons_succ, List.getElem_cons_zero, List.setIfInBounds_toArray, List.set_cons_zero, List.set_cons_succ]
        first | (refine wpAnyH_take (i := 34) (v := undef) rfl ?_ ?_ ?_ (fun _ _ _ h => h) ?_ ?_ ?_; kernel_rfl; kernel_rfl; kernel_rfl; exact Or.inr ⟨by rfl, rfl⟩; exact hH) | (refine wpAnyH_take (i := 34) (v := ?_) rfl ?_ ?_ ?_ (fun _ _ _ h => h) ?_ ?_ ?_; rotate_left; kernel_rfl; kernel_rfl; kernel_rfl; (focus (refine Or.inl ⟨by rfl, ?_⟩; intro w' hSw; (try dsimp only at hSw); go_simp)); exact hH) | (refine wpAnyH_take (i := 34) (v := ?_) rfl ?_ ?_ ?_ (fun _ _ _ h => h) ?_ ?_ ?_; rotate_left; kernel_rfl; kernel_rfl; kernel_rfl; (focus (refine Or.inl ⟨by rfl, ?_⟩; intro w' hSw; (try dsimp only at hSw); go_simp; with_reducible rfl)); exact hH)
        try simp only [Act.put, List.getElem_toArray, List.getElem_cons_succ, List.getElem_cons_zero, List.setIfInBounds_toArray, List.set_cons_zero, List.set_cons_succ]
        refine wpAnyH_done (by kernel_rfl) ?_ _
        refine NoPanic.normal ?_
        clear hH KQ
        have HFX := Lib.hid fr4
        clear fr1 fr2 fr3 fr4
        have HXB := Lib.hid (And.intro (HB8.out.fr HFX.out (fun h => h.2 rfl)) (HBRG.out.fr HFX.out (by have := HW1.out; show ¬ (_ ∧ _); omega)))
        have HIT : Hid (t2.items = t1.items) := HTW.out.2.1
        go_wp2_with fail
        with_reducible refine (ru_Each _ rfl _).mono ?_
        rintro e wx ⟨rfl, rfl⟩
        go_wp2_with fail
        obtain ⟨W0, hW0⟩ : ∃ x, w4.alloc (.cells #[.pointer (some ⟨T1, 0, none⟩)] 24) = x := ⟨_, rfl⟩
        have b0 : Blk W0 w4.heap.size 24 #[.pointer (some ⟨T1, 0, none⟩)] := by rw [← hW0]; exact Blk.new _ _ _
        have hB0 : Below w4.heap.size w4 W0 := by rw [← hW0]; exact (Below.refl _ _).alloc (Nat.le_refl _) _
        have hsz : W0.heap.size = w4.heap.size + 1 := by rw [← hW0]; simp
        rw [hW0]
        have HSZ := Lib.hid hsz
        have i1 := HA32.out.next hB0
        have i2 := HXB.out.1.next hB0
        have i3 := HXB.out.2.next hB0
        clear hW0 hsz
        have HW2 : Hid (wa.heap.size ≤ w4.heap.size) := HA32.out.a.below.size
        refine wp_range (gf := 70) (lb := #[.pointer (some ⟨w4.heap.size, 0, none⟩)]) rfl (enters_of Try.func70 (by kernel_rfl) rfl) (ru_yields T1 w4.heap.size t1) (fun _ _ => rfl)
          (fun k W => Two wa W T1 t1 T2 t2 ∧ Blk W w4.heap.size 24 #[.pointer (some ⟨T1, 0, none⟩)] ∧ Blk W wc.heap.size 24 #[.pointer (some ⟨T2, 0, none⟩)] ∧ Blk W (w.heap.size + 1) 4 #[.bool false] ∧ W0.heap.size ≤ W.heap.size)
          (fun _ _ _ => False) ?hI (fun _ _ _ _ h _ => h) (fun k A h => ⟨h.1.a.is, h.2.1⟩) ?h0 ?hround ?hdone (fun _ _ _ _ h _ => h.elim)
        case hI =>
          rintro k A C ⟨h1, h2, h3, h4, h5⟩ hs
          exact ⟨h1.stays hs (by have := HW2.out; have := HSZ.out; omega), h2.stays hs, h3.stays hs, h4.stays hs, Nat.le_trans h5 hs.size⟩
        case h0 => exact ⟨i1, b0, i2, i3, Nat.le_refl _⟩
        case hround =>
          rintro k W hk ⟨h1, h2, h3, h4, h5⟩ hlt
          obtain ⟨kk, vv, q1⟩ : ∃ kk vv, t1.items[k]? = some (kk, vv) := ⟨(t1.items[k]).1, (t1.items[k]).2, List.getElem?_eq_getElem hk⟩
          rw [encRB_at q1]
          have hget : get kk t2.items = some vv := by rw [HIT.out]; exact get_of_mem h1.a.is.rises (List.mem_of_getElem? q1)
          have HI := Lib.hid (And.intro h1 (And.intro h2 (And.intro h3 (And.intro h4 h5))))
          clear h1 h2 h3 h4 h5 q1 hk b0 hB0 i1 i2 i3
          gi_wp2
          refine ⟨(Holds.refl hlt).alloc _, fun W2 hs => ?_⟩
          obtain ⟨OB, hOB⟩ : ∃ x, x = (.cells #[.int .u64 kk.1, .int .i64 kk.2] 31 : Obj) := ⟨_, rfl⟩
          have hbA : Below W.heap.size W (W.alloc OB) := (Below.refl _ _).alloc (Nat.le_refl _) _
          rw [← hOB] at hs
          have tN : Blk W2 W.heap.size 31 #[.int .u64 kk.1, .int .i64 kk.2] := by rw [hOB] at hs; exact (Blk.new W _ _).stays hs
          have H1 := Lib.hid ((HI.out.1.next hbA).stays hs (by have := HW2.out; have := HSZ.out; omega))
          have H2 := Lib.hid (And.intro ((HI.out.2.1.alloc OB).stays hs) (And.intro ((HI.out.2.2.1.alloc OB).stays hs) ((HI.out.2.2.2.1.alloc OB).stays hs)))
          have H10 : Hid (W0.heap.size + 1 < W2.heap.size) := by have := hs.size; simp only [World.size_alloc] at this; exact show _ < _ by omega
          have k0 := tN.get 0 rfl
          have k1 := tN.get 1 rfl
          have x8 := H2.out.2.1.get 0 rfl
          have GET := Lib.hid (ru_get T2 t2 kk W2 H1.out.b.is)
          rw [hget] at GET
          have hd : 1 ≤ 5 := by omega
          clear hs hbA hOB hlt tN hget
          gi_wp2_with (refine ⟨trivial, ?_⟩; gi_at_call 29; with_reducible refine (CallsIn.inRound (W0.heap.size + 1) (callsIn_wide.2 GET.out)).mono ?_; rintro e W3 ⟨rfl, hbn⟩; have HBN := Lib.hid hbn; clear hbn k0 k1 x8)
          exact ⟨(Holds.refl H10.out).next HBN.out, H1.out.next HBN.out, H2.out.1.next HBN.out, H2.out.2.1.next HBN.out, H2.out.2.2.next HBN.out, Nat.le_trans (by have := H10.out; omega) HBN.out.size⟩
        case hdone =>
          rintro W ⟨h1, h2, h3, h4, h5⟩ hD
          have HI := Lib.hid (And.intro h1 (And.intro h3 (And.intro h4 (And.intro h5 hD))))
          clear h1 h2 h3 h4 h5 hD b0 hB0 i1 i2 i3
          have U1 := Lib.hid (ru_upto T1 t1 nm W HI.out.1.a.is)
          go_wp2_with fail
          with_reducible refine (U1.out).mono ?_
          rintro e W1 ⟨rfl, hb1⟩
          have HJ := Lib.hid (And.intro (HI.out.1.next hb1) (And.intro (HI.out.2.1.next hb1) (And.intro (HI.out.2.2.1.next hb1) ((hb1.block _ (Array.getElem?_eq_some_iff.1 HI.out.2.2.2.2).1).trans HI.out.2.2.2.2))))
          have U2 := Lib.hid (ru_upto T2 t2 nm W1 HJ.out.1.b.is)
          rw [HIT.out] at U2
          have x8 := HJ.out.2.1.get 0 rfl
          clear hb1 U1
          go_wp2_with fail
          with_reducible refine (U2.out).mono ?_
          rintro e W2 ⟨rfl, hb2⟩
          have HJ2 := Lib.hid (And.intro (HJ.out.1.next hb2) (And.intro (HJ.out.2.2.1.next hb2) ((hb2.block _ (Array.getElem?_eq_some_iff.1 HJ.out.2.2.2).1).trans HJ.out.2.2.2)))
          have fz := HJ2.out.2.1.frozen 0
          have cz := HJ2.out.2.1.get 0 rfl
          generalize (uptoU nm t1.items).getD 0 = g1
          generalize (uptoU nm t1.items).isSome = g2
          clear hb2 U2 x8
          go_wp2
          refine marks_ret (B := w.heap.size) [W0.heap.size] rfl (by intro D hd; simp only [List.mem_singleton] at hd; subst hd; exact ⟨by have := HW1.out; have := HW2.out; have := HSZ.out; omega, (Below.heap_setCell _ _ _ _ (show W0.heap.size ≠ w.heap.size + 1 by have := HW1.out; have := HW2.out; have := HSZ.out; omega)).trans HJ2.out.2.2⟩) (by simp) ?_
          intro w' hs
          have b4 := (HJ2.out.2.1.put 0 (.bool true)).stays hs
          have n4 : w'.cell? ⟨w.heap.size + 1, 0, none⟩ = some (.bool true) := b4.get 0 rfl
          have b5 := below_stays (((H0.out.2.2.1.trans (HB1.out.mono H0.out.2.2.1.size)).trans (HJ2.out.1.a.below.mono (by have := HW1.out; omega))).setCell (p := ⟨w.heap.size + 1, 0, none⟩) (Nat.le_add_right _ 1) (.bool true)) hs (Nat.le_refl _)
          exact ⟨_, by simp [results, Try.results8, go_sem, n4]; try rfl, rfl, b5⟩


end Go.Proofs.Ytjlnbpomncglcaa

