/-
  TreeHolds holds.
-/
import Derived.Test.YtjlnbpomncglcaaProg
import Derived.Test.YtjlnbpomncglcaaRBPair
namespace Go.Proofs.Ytjlnbpomncglcaa
set_option linter.unusedVariables false
set_option linter.unusedSimpArgs false
set_option maxRecDepth 100000
open Go.RowKit Go.Shelf

theorem wrap_in {x : Int} (h : -1 ≤ x) (h2 : x ≤ 1000000) : wrap64 x = x := by unfold wrap64; omega
theorem wrap_of {x : Int} {m : Nat} (h : x = m) (hm : m ≤ 1000000) : wrap64 x = m := by subst h; exact wrap_in (by omega) (by omega)
theorem TrToU.apart {w w' : World} {T B : Nat} {t t' : RB Int} (k : TrToU w w' T t t') (h : Out B T t) : Fr (fun j => j ≠ B) w w' :=
  k.fr.mono fun j _ hj e => by
    subst e
    rcases hj with e | e
    · exact h.1 e
    · exact h.2 e
theorem rowS_apart {w w' : World} {r B : Nat} {v : Value} (hf : Fr (RowS r v) w w') (h : B ≠ r ∧ ∀ j, v.ownBlock = some j → j ≠ B) : Fr (fun j => j ≠ B) w w' :=
  hf.mono fun j _ hj e => by
    subst e
    rcases hj with e | e
    · exact h.1 e
    · exact h.2 _ e rfl
set_option maxHeartbeats 16000000 in
theorem treeHolds_walk (w : World) (A : Option Addr) (n c : Nat) (N : Nat → Int) (fN : ∀ i, i < n → (Lit.int .u64 (N i)).wf = true) (I : Nat → Int) (fI : ∀ i, i < n → (Lit.int .i64 (I i)).wf = true) (V : Nat → Int) (fV : ∀ i, i < n → (Lit.int .u64 (V i)).wf = true) (D : Nat → Bool) (hl : n ≤ c) (hm : c ≤ maxLen)
    (hA : 0 < n → ∃ b off, A = some ⟨b, off, none⟩ ∧ b < w.heap.size) (hN : ∀ b off, A = some ⟨b, off, none⟩ → ∀ i, i < n → w.cell? ⟨b, off + (i * 4 + 0), none⟩ = some (.int .u64 (N i))) (hI : ∀ b off, A = some ⟨b, off, none⟩ → ∀ i, i < n → w.cell? ⟨b, off + (i * 4 + 1), none⟩ = some (.int .i64 (I i)))
    (hV : ∀ b off, A = some ⟨b, off, none⟩ → ∀ i, i < n → w.cell? ⟨b, off + (i * 4 + 2), none⟩ = some (.int .u64 (V i))) (hD : ∀ b off, A = some ⟨b, off, none⟩ → ∀ i, i < n → w.cell? ⟨b, off + (i * 4 + 3), none⟩ = some (.bool (D i))) (at1 : Int) (fat1 : (Lit.int .i64 at1).wf = true) :
    Calls Try.prog 4 #[.slice A n c, .int .i64 at1] w fun e w' => e = .returned (.bool true) ∧ Below w.heap.size w w' := by
  have HA := Lib.hid (racts_of hA hN hI hV hD)
  clear hA hN hI hV hD fN fI fV hl hm fat1
  by_cases hn : 120 < n
  · have d2 : decide (120 < n) = true := decide_eq_true hn
    have d1 : decide ((120 : Int) < (n : Int)) = true := decide_eq_true (by omega)
    clear hn
    go_enter Try.func4, Try.ntmps4
    go_wp2
    go_ret
    exact ⟨rfl, Below.refl _ _⟩
  have d2 : decide (120 < n) = false := decide_eq_false hn
  have d1 : decide ((120 : Int) < (n : Int)) = false := decide_eq_false (by omega)
  have HN := Lib.hid (show n ≤ 120 by omega)
  clear hn
  go_enter Try.func4, Try.ntmps4
  go_wp2_with fail
  with_reducible refine (ru_numbers w).mono ?_
  rintro e wa ⟨T, rfl, g1, g2, g3⟩
  have HT1 : Hid (TrAt w wa T .nil) := ⟨g1, g2, (fun x hx => by cases hx), g3⟩
  clear g1 g2 g3
  go_upto_region 4 with (fail)
  have hbd : Below wa.heap.size wa (wa.alloc (.cells #[.slice none 0 0] 29)) := by go_grown
  have b8 := Blk.new wa 29 #[.slice none 0 0]
  have hpr : Pair w (wa.alloc (.cells #[.slice none 0 0] 29)) T .nil wa.heap.size (.slice none 0 0) [] := ⟨HT1.out.next hbd, ⟨b8, World.ownsRow_nil _ _ _ _⟩, HT1.out.below.size, ⟨fun e => by have := HT1.out.is.blk.lt; omega, fun hx => by cases hx⟩, fun j hj => by cases hj⟩
  clear hbd b8
  generalize wa.heap.size = r at hpr ⊢
  generalize wa.alloc (.cells #[.slice none 0 0] 29) = wd at hpr ⊢
  have HPR0 := Lib.hid hpr
  clear hpr
  have SM0 := Lib.hid (rb_same T .nil r w.heap.size (.slice none 0 0) wd HPR0.out.a.is HPR0.out.row (by decide))
  go_wp2_with fail
  with_reducible refine (SM0.out).mono ?_
  rintro e wd2 ⟨rfl, hb⟩
  have HPR1 := Lib.hid (HPR0.out.next hb)
  clear hb SM0 HPR0
  go_wp2
  go_loopg [7] n (fun gk ix wr => ∃ (i : Nat) (t : RB Int) (v : Value), i + gk = n ∧ ix = .int .i64 i ∧ Pair w wr T t r v (actsRow N I V D i) ∧ t.items = actsRow N I V D i)
  case atStart => exact ⟨0, .nil, _, by omega, rfl, HPR1.out, rfl⟩
  case round =>
    obtain ⟨i, t, v, hi, rfl, hp, hi1⟩ := hrel
    have HP := Lib.hid (And.intro hp hi1)
    clear hp hi1
    obtain ⟨wo, rfl⟩ : ∃ x : World, x = wr := ⟨_, rfl⟩
    obtain ⟨go, rfl⟩ : ∃ x : Nat, x = gk := ⟨_, rfl⟩
    by_cases hlt : i < n
    · obtain ⟨gm, rfl⟩ : ∃ gm, go = gm + 1 := ⟨go - 1, by omega⟩
      obtain ⟨bA, off, rfl, hbA⟩ := HA.out.addr (by omega)
      have HBA := Lib.hid hbA
      have HCE := Lib.hid (HA.out.cells bA off rfl i hlt)
      have c0 := ((HP.out.1.a.below).cell (p := ⟨bA, off + i * 4, none⟩) HBA.out).trans HCE.out.1
      have c1 := ((HP.out.1.a.below).cell (p := ⟨bA, off + i * 4 + 1, none⟩) HBA.out).trans HCE.out.2.1
      have c2 := ((HP.out.1.a.below).cell (p := ⟨bA, off + i * 4 + 2, none⟩) HBA.out).trans HCE.out.2.2.1
      have c3 := ((HP.out.1.a.below).cell (p := ⟨bA, off + i * 4 + 3, none⟩) HBA.out).trans HCE.out.2.2.2
      have hlen : t.items.length ≤ 1000000 := by rw [HP.out.2]; have := actsRow_len N I V D i; have := HN.out; omega
      have hlen2 : (actsRow N I V D i).length ≤ 65535 := by have := actsRow_len N I V D i; have := HN.out; omega
      have HLN := Lib.hid (And.intro hlen hlen2)
      have HL0 : Hid ((actsRow N I V D i).length ≤ i) := actsRow_len N I V D i
      have HSTEP := Lib.hid (show actsRow N I V D (i + 1) = actR (D i) (N i, I i) (V i) (actsRow N I V D i) from rfl)
      have HRI := Lib.hid (acts_rises N I V D i)
      obtain ⟨L0, hL0⟩ : ∃ x, actsRow N I V D i = x := ⟨_, rfl⟩
      rw [hL0] at HP HSTEP HRI HLN HL0
      obtain ⟨a1, hx1⟩ : ∃ x, N i = x := ⟨_, rfl⟩
      obtain ⟨a2, hx2⟩ : ∃ x, I i = x := ⟨_, rfl⟩
      obtain ⟨a3, hx3⟩ : ∃ x, V i = x := ⟨_, rfl⟩
      obtain ⟨a4, hx4⟩ : ∃ x, D i = x := ⟨_, rfl⟩
      rw [hx1, hx2, hx3, hx4] at HSTEP
      rw [hx1] at c0
      rw [hx2] at c1
      rw [hx3] at c2
      rw [hx4] at c3
      clear hx1 hx2 hx3 hx4 hL0 HCE hlen hlen2
      have p0 : (0 : Int) ≤ (i : Int) := by omega
      have p1 : (i : Int) < (n : Int) := by omega
      have e5 : wrap64 ((i : Int) + 1) = ((i + 1 : Nat) : Int) := by have := HN.out; unfold wrap64; omega
      go_upto_region 10 with (fail)
      have hb1 : Below wo.heap.size wo (wo.alloc (.cells #[.int .u64 a1, .int .i64 a2, .int .u64 a3, .bool a4] 33)) := by go_grown
      have b81 := Blk.new wo 33 #[.int .u64 a1, .int .i64 a2, .int .u64 a3, .bool a4]
      have ho : Out wo.heap.size T t ∧ wo.heap.size ≠ r ∧ ∀ j, v.ownBlock = some j → j ≠ wo.heap.size := ⟨⟨fun e => by have := HP.out.1.a.is.blk.lt; omega, fun hx => by have := RepU.lt HP.out.1.a.is.rep _ hx; omega⟩, fun e => by have := HP.out.1.row.head.lt; omega, fun j hj e => by have := (HP.out.1.row.own.lt j hj).2; omega⟩
      generalize wo.heap.size = B8 at b81 ho ⊢
      generalize wo.alloc (.cells #[.int .u64 a1, .int .i64 a2, .int .u64 a3, .bool a4] 33) = wz at hb1 b81 ⊢
      have HZ1 : Hid (Pair w wz T t r v L0 ∧ t.items = L0) := ⟨HP.out.1.next hb1, HP.out.2⟩
      have HB81 := Lib.hid b81
      have HO := Lib.hid ho
      clear hb1 b81 ho c0 c1 c2 c3
      by_cases hat : (i : Int) = at1
      · have d3 : ((i : Int) == at1) = true := beq_iff_eq.2 hat
        subst hat
        clear d3
        go_wp2_with fail
        with_reducible refine (ru_Copy T t wz HZ1.out.1.a.is).mono ?_
        rintro e wc ⟨C, tc, rfl, h1, h2, h3, h4, h5⟩
        have HC0 : Hid (TrAt wz wc C tc ∧ tc.items = L0) := ⟨⟨h1, h3, h4, h5⟩, (likeU.items h2).trans HZ1.out.2⟩
        have HZC : Hid (Pair w wc T t r v L0) := HZ1.out.1.next h5
        clear h1 h2 h3 h4 h5
        have SMC := Lib.hid (rb_same C tc r w.heap.size v wc HC0.out.1.is (by rw [HC0.out.2]; exact HZC.out.row) (by rw [HC0.out.2]; exact HLN.out.2))
        go_wp2_with fail
        with_reducible refine (SMC.out).mono ?_
        rintro e wd2 ⟨rfl, hb⟩
        have HC1 := Lib.hid (And.intro (HC0.out.1.next hb) HC0.out.2)
        clear hb SMC HC0 HZC
        have E5 := Lib.hid e5
        clear e5
        go_wp2
        go_loopg [10] (gm + 1) (fun gk ix wr => ∃ (k : Nat) (tk : RB Int), k + gk = n ∧ i ≤ k ∧ ix = .int .i64 k ∧ TrAt wz wr C tk ∧ tk.items.length ≤ 120 + k)
        case atStart => exact ⟨i, tc, hi, Nat.le_refl _, rfl, HC1.out.1, by rw [HC1.out.2]; have := HLN.out.1; have := HL0.out; omega⟩
        case round =>
          obtain ⟨k, tk, hk, hik, rfl, hck, hlk⟩ := hrel
          have HCK := Lib.hid hck
          have HLK := Lib.hid hlk
          clear hck hlk
          obtain ⟨wk, rfl⟩ : ∃ x : World, x = wr := ⟨_, rfl⟩
          by_cases hkn : k < n
          · obtain ⟨gj, rfl⟩ : ∃ gj, gk = gj + 1 := ⟨gk - 1, by omega⟩
            have HCEK := Lib.hid (HA.out.cells bA off rfl k (by omega))
            obtain ⟨mm, hmm⟩ : ∃ mm, n - 1 - k = mm := ⟨_, rfl⟩
            have HCEM := Lib.hid (HA.out.cells bA off rfl mm (by omega))
            have HLOW : Hid (Below w.heap.size w wk) := HZ1.out.1.a.below.trans (HCK.out.below.mono HZ1.out.1.a.below.size)
            have c0 := (HLOW.out.cell (p := ⟨bA, off + k * 4, none⟩) HBA.out).trans HCEK.out.1
            have c1 := (HLOW.out.cell (p := ⟨bA, off + k * 4 + 1, none⟩) HBA.out).trans HCEK.out.2.1
            have c2 := (HLOW.out.cell (p := ⟨bA, off + k * 4 + 2, none⟩) HBA.out).trans HCEK.out.2.2.1
            have r0 : (0 : Int) ≤ (k : Int) := by omega
            have r1 : (k : Int) < (n : Int) := by omega
            have r2 : (0 : Int) ≤ (mm : Int) := by omega
            have r3 : (mm : Int) < (n : Int) := by omega
            have HMM := Lib.hid hmm
            have hlt1 : tk.items.length ≤ 1000000 := by have := HLK.out; have := HN.out; omega
            have q6 : (k : Int) + 1 = ((k + 1 : Nat) : Int) := by omega
            have q7 : k + 1 ≤ 1000000 := by have := HN.out; omega
            have q8 : (-1 : Int) ≤ (n : Int) - 1 := by omega
            have q9 : (n : Int) - 1 ≤ 1000000 := by have := HN.out; omega
            have q10 : (n : Int) - 1 - (k : Int) = (mm : Int) := by omega
            have q11 : mm ≤ 1000000 := by have := HN.out; omega
            have HK1 : Hid (k + 1 + gj = n ∧ i ≤ k + 1) := ⟨by omega, by omega⟩
            obtain ⟨y3, hy3⟩ : ∃ x, IntKind.u64.wrap (V k + 1) = x := ⟨_, rfl⟩
            have PUT := Lib.hid (ru_putAny C tk (N k, I k) y3 wk.drew (HCK.out.next (below_of_drew (Below.refl _ _))).is hlt1)
            have HQ := Lib.hid (And.intro q6 (And.intro q7 (And.intro q8 (And.intro q9 (And.intro q10 q11)))))
            clear hmm hlt1 q6 q7 q8 q9 q10 q11
            have e6 : wrap64 ((k : Int) + 1) = ((k + 1 : Nat) : Int) := wrap_of HQ.out.1 HQ.out.2.1
            have e7 : wrap64 ((n : Int) - 1) = (n : Int) - 1 := wrap_in HQ.out.2.2.1 HQ.out.2.2.2.1
            have e8 : wrap64 ((n : Int) - 1 - (k : Int)) = (mm : Int) := wrap_of HQ.out.2.2.2.2.1 HQ.out.2.2.2.2.2
            go_upto_region 17 with (fail)
            go_still_tail 12, (by kernel_rfl)
            go_wp2_with fail
            with_reducible refine (PUT.out).mono ?_
            rintro e w2 ⟨rfl, tk2, ht, hit⟩
            have HCK2 := Lib.hid (And.intro ((HCK.out.next (below_of_drew (Below.refl _ _))).step ht) hit)
            clear ht hit PUT hy3 c0 c1 c2
            have HLK2 : Hid (tk2.items.length ≤ 120 + (k + 1)) := by clear e6 e7 e8; have := rput_length (N k, I k) y3 tk.items; rw [← HCK2.out.2] at this; have := HLK.out; exact show _ ≤ _ by omega
            have HLOW2 : Hid (Below w.heap.size w w2) := HZ1.out.1.a.below.trans (HCK2.out.1.below.mono HZ1.out.1.a.below.size)
            have c0 := (HLOW2.out.cell (p := ⟨bA, off + mm * 4, none⟩) HBA.out).trans HCEM.out.1
            have c1 := (HLOW2.out.cell (p := ⟨bA, off + mm * 4 + 1, none⟩) HBA.out).trans HCEM.out.2.1
            have DR := Lib.hid (ru_dropAny C tk2 (N mm, I mm) w2 HCK2.out.1.is (by clear e6 e7 e8; have := HLK2.out; have := HN.out; omega))
            go_wp2_with fail
            with_reducible refine (DR.out).mono ?_
            rintro e w3 ⟨rfl, tk3, ht, hit⟩
            have HCK3 := Lib.hid (And.intro (HCK2.out.1.step ht) hit)
            clear ht hit DR c0 c1
            have HLK3 : Hid (tk3.items.length ≤ 120 + (k + 1)) := by clear e6 e7 e8; rw [HCK3.out.2]; have := del_length_le (N mm, I mm) tk2.items; have := HLK2.out; exact show _ ≤ _ by omega
            go_wp2
            go_roundg gj
            case rel => exact ⟨k + 1, tk3, HK1.out.1, HK1.out.2, by go_num, HCK3.out.1, HLK3.out⟩
            case measure => exact Nat.lt_succ_self _
          · obtain rfl : gk = 0 := by omega
            obtain rfl : k = n := by omega
            have HZ : Hid (Pair w wk T t r v L0 ∧ t.items = L0) := ⟨HZ1.out.1.next HCK.out.below, HZ1.out.2⟩
            have HB8 : Hid (Blk wk B8 33 #[.int .u64 a1, .int .i64 a2, .int .u64 a3, .bool a4]) := HB81.out.next HCK.out.below
            clear HCK HLK hk hik
            have e5 := E5.out
            have x3 := HB8.out.get 3 rfl
            have xl := HB8.out.lt
            cases a4 with
            | true =>
              go_upto_region 20 with (fail)
              clear x3 xl
              have KQ : Hid (∀ w', Fr ((fun j => j ≠ B8)) wk w' → (w'.cell? ⟨B8, 0, none⟩ = some (.int .u64 a1) ∧ w'.cell? ⟨B8, 1, none⟩ = some (.int .i64 a2)) ∧ Fr ((fun j => j ≠ B8)) wk w') := fun w' hb => ⟨⟨((HB8.out.fr hb (fun h => h rfl)).get 0 rfl), ((HB8.out.fr hb (fun h => h rfl)).get 1 rfl)⟩, hb⟩
              obtain ⟨er, her⟩ : ∃ x, delE (a1, a2) L0 = x := ⟨_, rfl⟩
              have HER := Lib.hid her
              clear her
              refine wp_region_noPanic ?_
              refine wp_region_held_drew (S := fun w' => (w'.cell? ⟨B8, 0, none⟩ = some (.int .u64 a1) ∧ w'.cell? ⟨B8, 1, none⟩ = some (.int .i64 a2)) ∧ Fr ((fun j => j ≠ B8)) wk w') (by kernel_rfl) (KQ.out _ (Fr.drew ((Fr.refl (fun j => j ≠ B8) wk)))) (fun hH => ?_)
              have hbR := Fr.drew ((Fr.refl (fun j => j ≠ B8) wk))
              first | (refine wpAnyH_take (i := 0) (v := undef) rfl ?_ ?_ ?_ (fun _ _ _ h => h) ?_ ?_ ?_; kernel_rfl; kernel_rfl; kernel_rfl; exact Or.inr ⟨by rfl, rfl⟩; exact hH) | (refine wpAnyH_take (i := 0) (v := ?_) rfl ?_ ?_ ?_ (fun _ _ _ h => h) ?_ ?_ ?_; rotate_left; kernel_rfl; kernel_rfl; kernel_rfl; (focus (refine Or.inl ⟨by rfl, ?_⟩; intro w' hSw; (try dsimp only at hSw); go_simp)); exact hH) | (refine wpAnyH_take (i := 0) (v := ?_) rfl ?_ ?_ ?_ (fun _ _ _ h => h) ?_ ?_ ?_; rotate_left; kernel_rfl; kernel_rfl; kernel_rfl; (focus (refine Or.inl ⟨by rfl, ?_⟩; intro w' hSw; (try dsimp only at hSw); go_simp; with_reducible rfl)); exact hH)
              try simp only [Act.put, List.getElem_toArray, List.getElem_cons_succ, List.getElem_cons_zero, List.setIfInBounds_toArray, List.set_cons_zero, List.set_cons_succ]
              first | (refine wpAnyH_take (i := 1) (v := undef) rfl ?_ ?_ ?_ (fun _ _ _ h => h) ?_ ?_ ?_; kernel_rfl; kernel_rfl; kernel_rfl; exact Or.inr ⟨by rfl, rfl⟩; exact hH) | (refine wpAnyH_take (i := 1) (v := ?_) rfl ?_ ?_ ?_ (fun _ _ _ h => h) ?_ ?_ ?_; rotate_left; kernel_rfl; kernel_rfl; kernel_rfl; (focus (refine Or.inl ⟨by rfl, ?_⟩; intro w' hSw; (try dsimp only at hSw); go_simp)); exact hH) | (refine wpAnyH_take (i := 1) (v := ?_) rfl ?_ ?_ ?_ (fun _ _ _ h => h) ?_ ?_ ?_; rotate_left; kernel_rfl; kernel_rfl; kernel_rfl; (focus (refine Or.inl ⟨by rfl, ?_⟩; intro w' hSw; (try dsimp only at hSw); go_simp; with_reducible rfl)); exact hH)
              try simp only [Act.put, List.getElem_toArray, List.getElem_cons_succ, List.getElem_cons_zero, List.setIfInBounds_toArray, List.set_cons_zero, List.set_cons_succ]
              first | (refine wpAnyH_take (i := 2) (v := undef) rfl ?_ ?_ ?_ (fun _ _ _ h => h) ?_ ?_ ?_; kernel_rfl; kernel_rfl; kernel_rfl; exact Or.inr ⟨by rfl, rfl⟩; exact hH) | (refine wpAnyH_take (i := 2) (v := ?_) rfl ?_ ?_ ?_ (fun _ _ _ h => h) ?_ ?_ ?_; rotate_left; kernel_rfl; kernel_rfl; kernel_rfl; (focus (refine Or.inl ⟨by rfl, ?_⟩; intro w' hSw; (try dsimp only at hSw); go_simp)); exact hH) | (refine wpAnyH_take (i := 2) (v := ?_) rfl ?_ ?_ ?_ (fun _ _ _ h => h) ?_ ?_ ?_; rotate_left; kernel_rfl; kernel_rfl; kernel_rfl; (focus (refine Or.inl ⟨by rfl, ?_⟩; intro w' hSw; (try dsimp only at hSw); go_simp; with_reducible rfl)); exact hH)
              try simp only [Act.put, List.getElem_toArray, List.getElem_cons_succ, List.getElem_cons_zero, List.setIfInBounds_toArray, List.set_cons_zero, List.set_cons_succ]
              first | (refine wpAnyH_take (i := 4) (v := undef) rfl ?_ ?_ ?_ (fun _ _ _ h => h) ?_ ?_ ?_; kernel_rfl; kernel_rfl; kernel_rfl; exact Or.inr ⟨by rfl, rfl⟩; exact hH) | (refine wpAnyH_take (i := 4) (v := ?_) rfl ?_ ?_ ?_ (fun _ _ _ h => h) ?_ ?_ ?_; rotate_left; kernel_rfl; kernel_rfl; kernel_rfl; (focus (refine Or.inl ⟨by rfl, ?_⟩; intro w' hSw; (try dsimp only at hSw); go_simp)); exact hH) | (refine wpAnyH_take (i := 4) (v := ?_) rfl ?_ ?_ ?_ (fun _ _ _ h => h) ?_ ?_ ?_; rotate_left; kernel_rfl; kernel_rfl; kernel_rfl; (focus (refine Or.inl ⟨by rfl, ?_⟩; intro w' hSw; (try dsimp only at hSw); go_simp; with_reducible rfl)); exact hH)
              try simp only [Act.put, List.getElem_toArray, List.getElem_cons_succ, List.getElem_cons_zero, List.setIfInBounds_toArray, List.set_cons_zero, List.set_cons_succ]
              first | (refine wpAnyH_take (i := 5) (v := undef) rfl ?_ ?_ ?_ (fun _ _ _ h => h) ?_ ?_ ?_; kernel_rfl; kernel_rfl; kernel_rfl; exact Or.inr ⟨by rfl, rfl⟩; exact hH) | (refine wpAnyH_take (i := 5) (v := ?_) rfl ?_ ?_ ?_ (fun _ _ _ h => h) ?_ ?_ ?_; rotate_left; kernel_rfl; kernel_rfl; kernel_rfl; (focus (refine Or.inl ⟨by rfl, ?_⟩; intro w' hSw; (try dsimp only at hSw); go_simp)); exact hH) | (refine wpAnyH_take (i := 5) (v := ?_) rfl ?_ ?_ ?_ (fun _ _ _ h => h) ?_ ?_ ?_; rotate_left; kernel_rfl; kernel_rfl; kernel_rfl; (focus (refine Or.inl ⟨by rfl, ?_⟩; intro w' hSw; (try dsimp only at hSw); go_simp; with_reducible rfl)); exact hH)
              try simp only [Act.put, List.getElem_toArray, List.getElem_cons_succ, List.getElem_cons_zero, List.setIfInBounds_toArray, List.set_cons_zero, List.set_cons_succ]
              first | (refine wpAnyH_take (i := 6) (v := undef) rfl ?_ ?_ ?_ (fun _ _ _ h => h) ?_ ?_ ?_; kernel_rfl; kernel_rfl; kernel_rfl; exact Or.inr ⟨by rfl, rfl⟩; exact hH) | (refine wpAnyH_take (i := 6) (v := ?_) rfl ?_ ?_ ?_ (fun _ _ _ h => h) ?_ ?_ ?_; rotate_left; kernel_rfl; kernel_rfl; kernel_rfl; (focus (refine Or.inl ⟨by rfl, ?_⟩; intro w' hSw; (try dsimp only at hSw); go_simp)); exact hH) | (refine wpAnyH_take (i := 6) (v := ?_) rfl ?_ ?_ ?_ (fun _ _ _ h => h) ?_ ?_ ?_; rotate_left; kernel_rfl; kernel_rfl; kernel_rfl; (focus (refine Or.inl ⟨by rfl, ?_⟩; intro w' hSw; (try dsimp only at hSw); go_simp; with_reducible rfl)); exact hH)
              try simp only [Act.put, List.getElem_toArray, List.getElem_cons_succ, List.getElem_cons_zero, List.setIfInBounds_toArray, List.set_cons_zero, List.set_cons_succ]
              refine wpAnyH_ready (rs := [3]) (by kernel_rfl) (by simp) ?_
              refine (AllReadyH.cons rfl (fun K hK => ?_) AllReadyH.nil)
              go_simp
              with_reducible refine (ru_dropAny T t (a1, a2) _ (HZ.out.1.next (below_of_drew (Below.refl wk.heap.size wk))).a.is HLN.out.1).mono ?_
              rintro e w1 ⟨rfl, t2, ht1, hi1⟩
              rw [HZ.out.2, HER.out]
              rw [HZ.out.2] at hi1
              have fr1 : Fr (fun j => j ≠ B8) wk w1 := hH.2.trans (ht1.apart HO.out.1)
              have HA3 := Lib.hid (And.intro ((HZ.out.1.next (below_of_drew (Below.refl wk.heap.size wk))).tree ht1) hi1)
              clear ht1 hi1
              refine hK.out _ _ (KQ.out _ fr1) (fun hH1 => ?_)
              clear hK K hH
              have hH := hH1
              clear hH1
              try simp only [Act.put, List.getElem_toArray, List.getElem_cons_succ, List.getElem_cons_zero, List.setIfInBounds_toArray, List.set_cons_zero, List.set_cons_succ]
              refine wpAnyH_ready (rs := [7]) (by kernel_rfl) (by simp) ?_
              refine (AllReadyH.cons rfl (fun K hK => ?_) AllReadyH.nil)
              go_simp
              with_reducible refine (pair_drop HA3.out.1 HRI.out HLN.out.2 (a1, a2)).mono ?_
              rintro e w2 ⟨rfl, v2, hp2, hf2, -⟩
              rw [HER.out]
              have fr2 : Fr (fun j => j ≠ B8) wk w2 := hH.2.trans (rowS_apart hf2 HO.out.2)
              have HA7 := Lib.hid (And.intro hp2 (HB8.out.fr fr2 (fun h => h rfl)))
              clear hp2 hf2
              refine hK.out _ _ (KQ.out _ fr2) (fun hH2 => ?_)
              clear hK K hH
              have hH := hH2
              clear hH2
              try simp only [Act.put, List.getElem_toArray, List.getElem_cons_succ, List.getElem_cons_zero, List.setIfInBounds_toArray, List.set_cons_zero, List.set_cons_succ]
              first | (refine wpAnyH_take (i := 8) (v := undef) rfl ?_ ?_ ?_ (fun _ _ _ h => h) ?_ ?_ ?_; kernel_rfl; kernel_rfl; kernel_rfl; exact Or.inr ⟨by rfl, rfl⟩; exact hH) | (refine wpAnyH_take (i := 8) (v := ?_) rfl ?_ ?_ ?_ (fun _ _ _ h => h) ?_ ?_ ?_; rotate_left; kernel_rfl; kernel_rfl; kernel_rfl; (focus (refine Or.inl ⟨by rfl, ?_⟩; intro w' hSw; (try dsimp only at hSw); go_simp)); exact hH) | (refine wpAnyH_take (i := 8) (v := ?_) rfl ?_ ?_ ?_ (fun _ _ _ h => h) ?_ ?_ ?_; rotate_left; kernel_rfl; kernel_rfl; kernel_rfl; (focus (refine Or.inl ⟨by rfl, ?_⟩; intro w' hSw; (try dsimp only at hSw); go_simp; with_reducible rfl)); exact hH)
              try simp only [Act.put, List.getElem_toArray, List.getElem_cons_succ, List.getElem_cons_zero, List.setIfInBounds_toArray, List.set_cons_zero, List.set_cons_succ]
              refine wpAnyH_done (by kernel_rfl) ?_ _
              refine NoPanic.normal ?_
              clear hH KQ
              have HP2 : Hid (Pair w w2 T t2 r v2 (actsRow N I V D (i + 1))) := by rw [HSTEP.out]; exact HA7.out.1
              have HI2 : Hid (t2.items = actsRow N I V D (i + 1)) := by rw [HSTEP.out]; exact HA3.out.2
              have HB2 := Lib.hid HA7.out.2
              have AN := Lib.hid (acts_rises N I V D (i + 1))
              have AL : Hid ((actsRow N I V D (i + 1)).length ≤ 65535) := show _ ≤ _ by have := actsRow_len N I V D (i + 1); have := HN.out; omega
              obtain ⟨L, hL⟩ : ∃ x, actsRow N I V D (i + 1) = x := ⟨_, rfl⟩
              rw [hL] at HP2 HI2 AN AL
              have HAR := Lib.hid hL
              clear hL HA3 HA7
              have x0 := HB2.out.get 0 rfl
              have x1 := HB2.out.get 1 rfl
              have GET := Lib.hid (ru_get T t2 (a1, a2) w2 HP2.out.a.is)
              rw [HI2.out] at GET
              rcases hg : get (a1, a2) L with _ | gx
              · have HG := Lib.hid hg
                rw [hg] at GET
                clear hg
                go_wp2_with fail
                with_reducible refine (GET.out).mono ?_
                rintro e wu ⟨rfl, hb⟩
                have HP3 := Lib.hid (HP2.out.next hb)
                have HB3 := Lib.hid (HB2.out.next hb)
                clear hb GET x0 x1
                have x0 := HB3.out.get 0 rfl
                have x1 := HB3.out.get 1 rfl
                have ATT := Lib.hid (k_at r w.heap.size v2 L (a1, a2) wu HP3.out.row AN.out AL.out)
                go_wp2_with fail
                with_reducible refine (ATT.out).mono ?_
                rintro e wv ⟨hb, q, rfl, hq⟩
                obtain rfl : q = -1 := by
                  rcases hq with hq | ⟨j, y, -, -, hq⟩
                  · exact hq.2
                  · rw [HG.out] at hq; cases hq
                have HP4 := Lib.hid (HP3.out.next hb)
                clear hb hq ATT x0 x1
                have SM := Lib.hid (rb_same T t2 r w.heap.size v2 wv HP4.out.a.is (by rw [HI2.out]; exact HP4.out.row) (by rw [HI2.out]; exact AL.out))
                go_wp2_with fail
                with_reducible refine (SM.out).mono ?_
                rintro e wy ⟨rfl, hb⟩
                have HPZ := Lib.hid (HP4.out.next hb)
                clear hb SM
                go_wp2
                go_roundg gm
                case rel => exact ⟨i + 1, t2, v2, by omega, by go_num, by rw [HAR.out]; exact HPZ.out, by rw [HAR.out]; exact HI2.out⟩
                case measure => omega
              
              · have HG := Lib.hid hg
                rw [hg] at GET
                clear hg
                go_wp2_with fail
                with_reducible refine (GET.out).mono ?_
                rintro e wu ⟨rfl, hb⟩
                have HP3 := Lib.hid (HP2.out.next hb)
                have HB3 := Lib.hid (HB2.out.next hb)
                clear hb GET x0 x1
                have x0 := HB3.out.get 0 rfl
                have x1 := HB3.out.get 1 rfl
                have ATT := Lib.hid (k_at r w.heap.size v2 L (a1, a2) wu HP3.out.row AN.out AL.out)
                go_wp2_with fail
                with_reducible refine (ATT.out).mono ?_
                rintro e wv ⟨hb, q, rfl, hq⟩
                obtain ⟨m, rfl, hm⟩ : ∃ m : Nat, q = (m : Int) ∧ L[m]? = some ((a1, a2), gx) := by
                  rcases hq with hq | ⟨j, y, e1, e2, hq⟩
                  · rw [HG.out] at hq; cases hq.1
                  · rw [HG.out] at hq; cases hq; exact ⟨j, e1, e2⟩
                have HP4 := Lib.hid (HP3.out.next hb)
                have HM := Lib.hid hm
                clear hb hq hm ATT x0 x1
                have SM := Lib.hid (rb_same T t2 r w.heap.size v2 wv HP4.out.a.is (by rw [HI2.out]; exact HP4.out.row) (by rw [HI2.out]; exact AL.out))
                go_wp2_with fail
                with_reducible refine (SM.out).mono ?_
                rintro e wy ⟨rfl, hb⟩
                have HPZ := Lib.hid (HP4.out.next hb)
                clear hb SM
                obtain ⟨Q, cq, hv2, -, -, -⟩ := HPZ.out.row.form
                have HV2 := Lib.hid hv2
                have hkr := HPZ.out.row
                rw [hv2] at hkr
                clear hv2
                obtain ⟨g, rfl, -, -, -, xg⟩ := hkr.cells HM.out
                have xr := hkr.head.get 0 rfl
                dsimp only at xg
                have hml : m < L.length := (List.getElem?_eq_some_iff.1 HM.out).1
                generalize L.length = l at xr hml
                have q0 : (0 : Int) ≤ (m : Int) := by omega
                have q1 : (m : Int) < (l : Int) := by omega
                have q2 : decide ((0 : Int) ≤ (m : Int)) = true := decide_eq_true q0
                clear hkr
                go_wp2
                go_roundg gm
                case rel => exact ⟨i + 1, t2, v2, by omega, by go_num, by rw [HAR.out]; exact HPZ.out, by rw [HAR.out]; exact HI2.out⟩
                case measure => omega
            
            | false =>
              go_upto_region 22 with (fail)
              clear x3 xl
              have KQ : Hid (∀ w', Fr ((fun j => j ≠ B8)) wk w' → (w'.cell? ⟨B8, 0, none⟩ = some (.int .u64 a1) ∧ w'.cell? ⟨B8, 1, none⟩ = some (.int .i64 a2) ∧ w'.cell? ⟨B8, 2, none⟩ = some (.int .u64 a3)) ∧ Fr ((fun j => j ≠ B8)) wk w') := fun w' hb => ⟨⟨((HB8.out.fr hb (fun h => h rfl)).get 0 rfl), ((HB8.out.fr hb (fun h => h rfl)).get 1 rfl), ((HB8.out.fr hb (fun h => h rfl)).get 2 rfl)⟩, hb⟩
              obtain ⟨er, her⟩ : ∃ x, putE (a1, a2) L0 = x := ⟨_, rfl⟩
              have HER := Lib.hid her
              clear her
              refine wp_region_noPanic ?_
              refine wp_region_held_drew (S := fun w' => (w'.cell? ⟨B8, 0, none⟩ = some (.int .u64 a1) ∧ w'.cell? ⟨B8, 1, none⟩ = some (.int .i64 a2) ∧ w'.cell? ⟨B8, 2, none⟩ = some (.int .u64 a3)) ∧ Fr ((fun j => j ≠ B8)) wk w') (by kernel_rfl) (KQ.out _ (Fr.drew ((Fr.refl (fun j => j ≠ B8) wk)))) (fun hH => ?_)
              have hbR := Fr.drew ((Fr.refl (fun j => j ≠ B8) wk))
              first | (refine wpAnyH_take (i := 0) (v := undef) rfl ?_ ?_ ?_ (fun _ _ _ h => h) ?_ ?_ ?_; kernel_rfl; kernel_rfl; kernel_rfl; exact Or.inr ⟨by rfl, rfl⟩; exact hH) | (refine wpAnyH_take (i := 0) (v := ?_) rfl ?_ ?_ ?_ (fun _ _ _ h => h) ?_ ?_ ?_; rotate_left; kernel_rfl; kernel_rfl; kernel_rfl; (focus (refine Or.inl ⟨by rfl, ?_⟩; intro w' hSw; (try dsimp only at hSw); go_simp)); exact hH) | (refine wpAnyH_take (i := 0) (v := ?_) rfl ?_ ?_ ?_ (fun _ _ _ h => h) ?_ ?_ ?_; rotate_left; kernel_rfl; kernel_rfl; kernel_rfl; (focus (refine Or.inl ⟨by rfl, ?_⟩; intro w' hSw; (try dsimp only at hSw); go_simp; with_reducible rfl)); exact hH)
              try simp only [Act.put, List.getElem_toArray, List.getElem_cons_succ, List.getElem_cons_zero, List.setIfInBounds_toArray, List.set_cons_zero, List.set_cons_succ]
              first | (refine wpAnyH_take (i := 1) (v := undef) rfl ?_ ?_ ?_ (fun _ _ _ h => h) ?_ ?_ ?_; kernel_rfl; kernel_rfl; kernel_rfl; exact Or.inr ⟨by rfl, rfl⟩; exact hH) | (refine wpAnyH_take (i := 1) (v := ?_) rfl ?_ ?_ ?_ (fun _ _ _ h => h) ?_ ?_ ?_; rotate_left; kernel_rfl; kernel_rfl; kernel_rfl; (focus (refine Or.inl ⟨by rfl, ?_⟩; intro w' hSw; (try dsimp only at hSw); go_simp)); exact hH) | (refine wpAnyH_take (i := 1) (v := ?_) rfl ?_ ?_ ?_ (fun _ _ _ h => h) ?_ ?_ ?_; rotate_left; kernel_rfl; kernel_rfl; kernel_rfl; (focus (refine Or.inl ⟨by rfl, ?_⟩; intro w' hSw; (try dsimp only at hSw); go_simp; with_reducible rfl)); exact hH)
              try simp only [Act.put, List.getElem_toArray, List.getElem_cons_succ, List.getElem_cons_zero, List.setIfInBounds_toArray, List.set_cons_zero, List.set_cons_succ]
              first | (refine wpAnyH_take (i := 2) (v := undef) rfl ?_ ?_ ?_ (fun _ _ _ h => h) ?_ ?_ ?_; kernel_rfl; kernel_rfl; kernel_rfl; exact Or.inr ⟨by rfl, rfl⟩; exact hH) | (refine wpAnyH_take (i := 2) (v := ?_) rfl ?_ ?_ ?_ (fun _ _ _ h => h) ?_ ?_ ?_; rotate_left; kernel_rfl; kernel_rfl; kernel_rfl; (focus (refine Or.inl ⟨by rfl, ?_⟩; intro w' hSw; (try dsimp only at hSw); go_simp)); exact hH) | (refine wpAnyH_take (i := 2) (v := ?_) rfl ?_ ?_ ?_ (fun _ _ _ h => h) ?_ ?_ ?_; rotate_left; kernel_rfl; kernel_rfl; kernel_rfl; (focus (refine Or.inl ⟨by rfl, ?_⟩; intro w' hSw; (try dsimp only at hSw); go_simp; with_reducible rfl)); exact hH)
              try simp only [Act.put, List.getElem_toArray, List.getElem_cons_succ, List.getElem_cons_zero, List.setIfInBounds_toArray, List.set_cons_zero, List.set_cons_succ]
              first | (refine wpAnyH_take (i := 3) (v := undef) rfl ?_ ?_ ?_ (fun _ _ _ h => h) ?_ ?_ ?_; kernel_rfl; kernel_rfl; kernel_rfl; exact Or.inr ⟨by rfl, rfl⟩; exact hH) | (refine wpAnyH_take (i := 3) (v := ?_) rfl ?_ ?_ ?_ (fun _ _ _ h => h) ?_ ?_ ?_; rotate_left; kernel_rfl; kernel_rfl; kernel_rfl; (focus (refine Or.inl ⟨by rfl, ?_⟩; intro w' hSw; (try dsimp only at hSw); go_simp)); exact hH) | (refine wpAnyH_take (i := 3) (v := ?_) rfl ?_ ?_ ?_ (fun _ _ _ h => h) ?_ ?_ ?_; rotate_left; kernel_rfl; kernel_rfl; kernel_rfl; (focus (refine Or.inl ⟨by rfl, ?_⟩; intro w' hSw; (try dsimp only at hSw); go_simp; with_reducible rfl)); exact hH)
              try simp only [Act.put, List.getElem_toArray, List.getElem_cons_succ, List.getElem_cons_zero, List.setIfInBounds_toArray, List.set_cons_zero, List.set_cons_succ]
              first | (refine wpAnyH_take (i := 4) (v := undef) rfl ?_ ?_ ?_ (fun _ _ _ h => h) ?_ ?_ ?_; kernel_rfl; kernel_rfl; kernel_rfl; exact Or.inr ⟨by rfl, rfl⟩; exact hH) | (refine wpAnyH_take (i := 4) (v := ?_) rfl ?_ ?_ ?_ (fun _ _ _ h => h) ?_ ?_ ?_; rotate_left; kernel_rfl; kernel_rfl; kernel_rfl; (focus (refine Or.inl ⟨by rfl, ?_⟩; intro w' hSw; (try dsimp only at hSw); go_simp)); exact hH) | (refine wpAnyH_take (i := 4) (v := ?_) rfl ?_ ?_ ?_ (fun _ _ _ h => h) ?_ ?_ ?_; rotate_left; kernel_rfl; kernel_rfl; kernel_rfl; (focus (refine Or.inl ⟨by rfl, ?_⟩; intro w' hSw; (try dsimp only at hSw); go_simp; with_reducible rfl)); exact hH)
              try simp only [Act.put, List.getElem_toArray, List.getElem_cons_succ, List.getElem_cons_zero, List.setIfInBounds_toArray, List.set_cons_zero, List.set_cons_succ]
              first | (refine wpAnyH_take (i := 6) (v := undef) rfl ?_ ?_ ?_ (fun _ _ _ h => h) ?_ ?_ ?_; kernel_rfl; kernel_rfl; kernel_rfl; exact Or.inr ⟨by rfl, rfl⟩; exact hH) | (refine wpAnyH_take (i := 6) (v := ?_) rfl ?_ ?_ ?_ (fun _ _ _ h => h) ?_ ?_ ?_; rotate_left; kernel_rfl; kernel_rfl; kernel_rfl; (focus (refine Or.inl ⟨by rfl, ?_⟩; intro w' hSw; (try dsimp only at hSw); go_simp)); exact hH) | (refine wpAnyH_take (i := 6) (v := ?_) rfl ?_ ?_ ?_ (fun _ _ _ h => h) ?_ ?_ ?_; rotate_left; kernel_rfl; kernel_rfl; kernel_rfl; (focus (refine Or.inl ⟨by rfl, ?_⟩; intro w' hSw; (try dsimp only at hSw); go_simp; with_reducible rfl)); exact hH)
              try simp only [Act.put, List.getElem_toArray, List.getElem_cons_succ, List.getElem_cons_zero, List.setIfInBounds_toArray, List.set_cons_zero, List.set_cons_succ]
              first | (refine wpAnyH_take (i := 7) (v := undef) rfl ?_ ?_ ?_ (fun _ _ _ h => h) ?_ ?_ ?_; kernel_rfl; kernel_rfl; kernel_rfl; exact Or.inr ⟨by rfl, rfl⟩; exact hH) | (refine wpAnyH_take (i := 7) (v := ?_) rfl ?_ ?_ ?_ (fun _ _ _ h => h) ?_ ?_ ?_; rotate_left; kernel_rfl; kernel_rfl; kernel_rfl; (focus (refine Or.inl ⟨by rfl, ?_⟩; intro w' hSw; (try dsimp only at hSw); go_simp)); exact hH) | (refine wpAnyH_take (i := 7) (v := ?_) rfl ?_ ?_ ?_ (fun _ _ _ h => h) ?_ ?_ ?_; rotate_left; kernel_rfl; kernel_rfl; kernel_rfl; (focus (refine Or.inl ⟨by rfl, ?_⟩; intro w' hSw; (try dsimp only at hSw); go_simp; with_reducible rfl)); exact hH)
              try simp only [Act.put, List.getElem_toArray, List.getElem_cons_succ, List.getElem_cons_zero, List.setIfInBounds_toArray, List.set_cons_zero, List.set_cons_succ]
              first | (refine wpAnyH_take (i := 8) (v := undef) rfl ?_ ?_ ?_ (fun _ _ _ h => h) ?_ ?_ ?_; kernel_rfl; kernel_rfl; kernel_rfl; exact Or.inr ⟨by rfl, rfl⟩; exact hH) | (refine wpAnyH_take (i := 8) (v := ?_) rfl ?_ ?_ ?_ (fun _ _ _ h => h) ?_ ?_ ?_; rotate_left; kernel_rfl; kernel_rfl; kernel_rfl; (focus (refine Or.inl ⟨by rfl, ?_⟩; intro w' hSw; (try dsimp only at hSw); go_simp)); exact hH) | (refine wpAnyH_take (i := 8) (v := ?_) rfl ?_ ?_ ?_ (fun _ _ _ h => h) ?_ ?_ ?_; rotate_left; kernel_rfl; kernel_rfl; kernel_rfl; (focus (refine Or.inl ⟨by rfl, ?_⟩; intro w' hSw; (try dsimp only at hSw); go_simp; with_reducible rfl)); exact hH)
              try simp only [Act.put, List.getElem_toArray, List.getElem_cons_succ, List.getElem_cons_zero, List.setIfInBounds_toArray, List.set_cons_zero, List.set_cons_succ]
              first | (refine wpAnyH_take (i := 9) (v := undef) rfl ?_ ?_ ?_ (fun _ _ _ h => h) ?_ ?_ ?_; kernel_rfl; kernel_rfl; kernel_rfl; exact Or.inr ⟨by rfl, rfl⟩; exact hH) | (refine wpAnyH_take (i := 9) (v := ?_) rfl ?_ ?_ ?_ (fun _ _ _ h => h) ?_ ?_ ?_; rotate_left; kernel_rfl; kernel_rfl; kernel_rfl; (focus (refine Or.inl ⟨by rfl, ?_⟩; intro w' hSw; (try dsimp only at hSw); go_simp)); exact hH) | (refine wpAnyH_take (i := 9) (v := ?_) rfl ?_ ?_ ?_ (fun _ _ _ h => h) ?_ ?_ ?_; rotate_left; kernel_rfl; kernel_rfl; kernel_rfl; (focus (refine Or.inl ⟨by rfl, ?_⟩; intro w' hSw; (try dsimp only at hSw); go_simp; with_reducible rfl)); exact hH)
              try simp only [Act.put, List.getElem_toArray, List.getElem_cons_succ, List.getElem_cons_zero, List.setIfInBounds_toArray, List.set_cons_zero, List.set_cons_succ]
              first | (refine wpAnyH_take (i := 10) (v := undef) rfl ?_ ?_ ?_ (fun _ _ _ h => h) ?_ ?_ ?_; kernel_rfl; kernel_rfl; kernel_rfl; exact Or.inr ⟨by rfl, rfl⟩; exact hH) | (refine wpAnyH_take (i := 10) (v := ?_) rfl ?_ ?_ ?_ (fun _ _ _ h => h) ?_ ?_ ?_; rotate_left; kernel_rfl; kernel_rfl; kernel_rfl; (focus (refine Or.inl ⟨by rfl, ?_⟩; intro w' hSw; (try dsimp only at hSw); go_simp)); exact hH) | (refine wpAnyH_take (i := 10) (v := ?_) rfl ?_ ?_ ?_ (fun _ _ _ h => h) ?_ ?_ ?_; rotate_left; kernel_rfl; kernel_rfl; kernel_rfl; (focus (refine Or.inl ⟨by rfl, ?_⟩; intro w' hSw; (try dsimp only at hSw); go_simp; with_reducible rfl)); exact hH)
              try simp only [Act.put, List.getElem_toArray, List.getElem_cons_succ, List.getElem_cons_zero, List.setIfInBounds_toArray, List.set_cons_zero, List.set_cons_succ]
              refine wpAnyH_ready (rs := [5]) (by kernel_rfl) (by simp) ?_
              refine (AllReadyH.cons rfl (fun K hK => ?_) AllReadyH.nil)
              go_simp
              with_reducible refine (ru_putAny T t (a1, a2) a3 _ (HZ.out.1.next (below_of_drew (Below.refl wk.heap.size wk))).a.is HLN.out.1).mono ?_
              rintro e w1 ⟨rfl, t2, ht1, hi1⟩
              rw [HZ.out.2, HER.out]
              rw [HZ.out.2] at hi1
              have fr1 : Fr (fun j => j ≠ B8) wk w1 := hH.2.trans (ht1.apart HO.out.1)
              have HA3 := Lib.hid (And.intro ((HZ.out.1.next (below_of_drew (Below.refl wk.heap.size wk))).tree ht1) hi1)
              clear ht1 hi1
              refine hK.out _ _ (KQ.out _ fr1) (fun hH1 => ?_)
              clear hK K hH
              have hH := hH1
              clear hH1
              try simp only [Act.put, List.getElem_toArray, List.getElem_cons_succ, List.getElem_cons_zero, List.setIfInBounds_toArray, List.set_cons_zero, List.set_cons_succ]
              refine wpAnyH_ready (rs := [11]) (by kernel_rfl) (by simp) ?_
              refine (AllReadyH.cons rfl (fun K hK => ?_) AllReadyH.nil)
              go_simp
              with_reducible refine (pair_put HA3.out.1 HRI.out HLN.out.2 (a1, a2) a3).mono ?_
              rintro e w2 ⟨rfl, v2, hp2, hf2, -⟩
              rw [HER.out]
              have fr2 : Fr (fun j => j ≠ B8) wk w2 := hH.2.trans (rowS_apart hf2 HO.out.2)
              have HA7 := Lib.hid (And.intro hp2 (HB8.out.fr fr2 (fun h => h rfl)))
              clear hp2 hf2
              refine hK.out _ _ (KQ.out _ fr2) (fun hH2 => ?_)
              clear hK K hH
              have hH := hH2
              clear hH2
              try simp only [Act.put, List.getElem_toArray, List.getElem_cons_succ, List.getElem_cons_zero, List.setIfInBounds_toArray, List.set_cons_zero, List.set_cons_succ]
              first | (refine wpAnyH_take (i := 12) (v := undef) rfl ?_ ?_ ?_ (fun _ _ _ h => h) ?_ ?_ ?_; kernel_rfl; kernel_rfl; kernel_rfl; exact Or.inr ⟨by rfl, rfl⟩; exact hH) | (refine wpAnyH_take (i := 12) (v := ?_) rfl ?_ ?_ ?_ (fun _ _ _ h => h) ?_ ?_ ?_; rotate_left; kernel_rfl; kernel_rfl; kernel_rfl; (focus (refine Or.inl ⟨by rfl, ?_⟩; intro w' hSw; (try dsimp only at hSw); go_simp)); exact hH) | (refine wpAnyH_take (i := 12) (v := ?_) rfl ?_ ?_ ?_ (fun _ _ _ h => h) ?_ ?_ ?_; rotate_left; kernel_rfl; kernel_rfl; kernel_rfl; (focus (refine Or.inl ⟨by rfl, ?_⟩; intro w' hSw; (try dsimp only at hSw); go_simp; with_reducible rfl)); exact hH)
              try simp only [Act.put, List.getElem_toArray, List.getElem_cons_succ, List.getElem_cons_zero, List.setIfInBounds_toArray, List.set_cons_zero, List.set_cons_succ]
              refine wpAnyH_done (by kernel_rfl) ?_ _
              refine NoPanic.normal ?_
              clear hH KQ
              have HP2 : Hid (Pair w w2 T t2 r v2 (actsRow N I V D (i + 1))) := by rw [HSTEP.out]; exact HA7.out.1
              have HI2 : Hid (t2.items = actsRow N I V D (i + 1)) := by rw [HSTEP.out]; exact HA3.out.2
              have HB2 := Lib.hid HA7.out.2
              have AN := Lib.hid (acts_rises N I V D (i + 1))
              have AL : Hid ((actsRow N I V D (i + 1)).length ≤ 65535) := show _ ≤ _ by have := actsRow_len N I V D (i + 1); have := HN.out; omega
              obtain ⟨L, hL⟩ : ∃ x, actsRow N I V D (i + 1) = x := ⟨_, rfl⟩
              rw [hL] at HP2 HI2 AN AL
              have HAR := Lib.hid hL
              clear hL HA3 HA7
              have x0 := HB2.out.get 0 rfl
              have x1 := HB2.out.get 1 rfl
              have GET := Lib.hid (ru_get T t2 (a1, a2) w2 HP2.out.a.is)
              rw [HI2.out] at GET
              rcases hg : get (a1, a2) L with _ | gx
              · have HG := Lib.hid hg
                rw [hg] at GET
                clear hg
                go_wp2_with fail
                with_reducible refine (GET.out).mono ?_
                rintro e wu ⟨rfl, hb⟩
                have HP3 := Lib.hid (HP2.out.next hb)
                have HB3 := Lib.hid (HB2.out.next hb)
                clear hb GET x0 x1
                have x0 := HB3.out.get 0 rfl
                have x1 := HB3.out.get 1 rfl
                have ATT := Lib.hid (k_at r w.heap.size v2 L (a1, a2) wu HP3.out.row AN.out AL.out)
                go_wp2_with fail
                with_reducible refine (ATT.out).mono ?_
                rintro e wv ⟨hb, q, rfl, hq⟩
                obtain rfl : q = -1 := by
                  rcases hq with hq | ⟨j, y, -, -, hq⟩
                  · exact hq.2
                  · rw [HG.out] at hq; cases hq
                have HP4 := Lib.hid (HP3.out.next hb)
                clear hb hq ATT x0 x1
                have SM := Lib.hid (rb_same T t2 r w.heap.size v2 wv HP4.out.a.is (by rw [HI2.out]; exact HP4.out.row) (by rw [HI2.out]; exact AL.out))
                go_wp2_with fail
                with_reducible refine (SM.out).mono ?_
                rintro e wy ⟨rfl, hb⟩
                have HPZ := Lib.hid (HP4.out.next hb)
                clear hb SM
                go_wp2
                go_roundg gm
                case rel => exact ⟨i + 1, t2, v2, by omega, by go_num, by rw [HAR.out]; exact HPZ.out, by rw [HAR.out]; exact HI2.out⟩
                case measure => omega
              
              · have HG := Lib.hid hg
                rw [hg] at GET
                clear hg
                go_wp2_with fail
                with_reducible refine (GET.out).mono ?_
                rintro e wu ⟨rfl, hb⟩
                have HP3 := Lib.hid (HP2.out.next hb)
                have HB3 := Lib.hid (HB2.out.next hb)
                clear hb GET x0 x1
                have x0 := HB3.out.get 0 rfl
                have x1 := HB3.out.get 1 rfl
                have ATT := Lib.hid (k_at r w.heap.size v2 L (a1, a2) wu HP3.out.row AN.out AL.out)
                go_wp2_with fail
                with_reducible refine (ATT.out).mono ?_
                rintro e wv ⟨hb, q, rfl, hq⟩
                obtain ⟨m, rfl, hm⟩ : ∃ m : Nat, q = (m : Int) ∧ L[m]? = some ((a1, a2), gx) := by
                  rcases hq with hq | ⟨j, y, e1, e2, hq⟩
                  · rw [HG.out] at hq; cases hq.1
                  · rw [HG.out] at hq; cases hq; exact ⟨j, e1, e2⟩
                have HP4 := Lib.hid (HP3.out.next hb)
                have HM := Lib.hid hm
                clear hb hq hm ATT x0 x1
                have SM := Lib.hid (rb_same T t2 r w.heap.size v2 wv HP4.out.a.is (by rw [HI2.out]; exact HP4.out.row) (by rw [HI2.out]; exact AL.out))
                go_wp2_with fail
                with_reducible refine (SM.out).mono ?_
                rintro e wy ⟨rfl, hb⟩
                have HPZ := Lib.hid (HP4.out.next hb)
                clear hb SM
                obtain ⟨Q, cq, hv2, -, -, -⟩ := HPZ.out.row.form
                have HV2 := Lib.hid hv2
                have hkr := HPZ.out.row
                rw [hv2] at hkr
                clear hv2
                obtain ⟨g, rfl, -, -, -, xg⟩ := hkr.cells HM.out
                have xr := hkr.head.get 0 rfl
                dsimp only at xg
                have hml : m < L.length := (List.getElem?_eq_some_iff.1 HM.out).1
                generalize L.length = l at xr hml
                have q0 : (0 : Int) ≤ (m : Int) := by omega
                have q1 : (m : Int) < (l : Int) := by omega
                have q2 : decide ((0 : Int) ≤ (m : Int)) = true := decide_eq_true q0
                clear hkr
                go_wp2
                go_roundg gm
                case rel => exact ⟨i + 1, t2, v2, by omega, by go_num, by rw [HAR.out]; exact HPZ.out, by rw [HAR.out]; exact HI2.out⟩
                case measure => omega

      · have d3 : ((i : Int) == at1) = false := beq_eq_false_iff_ne.2 hat
        have HZ := HZ1
        have HB8 := HB81
        clear hat HZ1 HB81
        have x3 := HB8.out.get 3 rfl
        have xl := HB8.out.lt
        cases a4 with
        | true =>
          go_upto_region 20 with (fail)
          clear x3 xl
          have KQ : Hid (∀ w', Fr ((fun j => j ≠ B8)) wz w' → (w'.cell? ⟨B8, 0, none⟩ = some (.int .u64 a1) ∧ w'.cell? ⟨B8, 1, none⟩ = some (.int .i64 a2)) ∧ Fr ((fun j => j ≠ B8)) wz w') := fun w' hb => ⟨⟨((HB8.out.fr hb (fun h => h rfl)).get 0 rfl), ((HB8.out.fr hb (fun h => h rfl)).get 1 rfl)⟩, hb⟩
          obtain ⟨er, her⟩ : ∃ x, delE (a1, a2) L0 = x := ⟨_, rfl⟩
          have HER := Lib.hid her
          clear her
          refine wp_region_noPanic ?_
          refine wp_region_held_drew (S := fun w' => (w'.cell? ⟨B8, 0, none⟩ = some (.int .u64 a1) ∧ w'.cell? ⟨B8, 1, none⟩ = some (.int .i64 a2)) ∧ Fr ((fun j => j ≠ B8)) wz w') (by kernel_rfl) (KQ.out _ (Fr.drew ((Fr.refl (fun j => j ≠ B8) wz)))) (fun hH => ?_)
          have hbR := Fr.drew ((Fr.refl (fun j => j ≠ B8) wz))
          first | (refine wpAnyH_take (i := 0) (v := undef) rfl ?_ ?_ ?_ (fun _ _ _ h => h) ?_ ?_ ?_; kernel_rfl; kernel_rfl; kernel_rfl; exact Or.inr ⟨by rfl, rfl⟩; exact hH) | (refine wpAnyH_take (i := 0) (v := ?_) rfl ?_ ?_ ?_ (fun _ _ _ h => h) ?_ ?_ ?_; rotate_left; kernel_rfl; kernel_rfl; kernel_rfl; (focus (refine Or.inl ⟨by rfl, ?_⟩; intro w' hSw; (try dsimp only at hSw); go_simp)); exact hH) | (refine wpAnyH_take (i := 0) (v := ?_) rfl ?_ ?_ ?_ (fun _ _ _ h => h) ?_ ?_ ?_; rotate_left; kernel_rfl; kernel_rfl; kernel_rfl; (focus (refine Or.inl ⟨by rfl, ?_⟩; intro w' hSw; (try dsimp only at hSw); go_simp; with_reducible rfl)); exact hH)
          try simp only [Act.put, List.getElem_toArray, List.getElem_cons_succ, List.getElem_cons_zero, List.setIfInBounds_toArray, List.set_cons_zero, List.set_cons_succ]
          first | (refine wpAnyH_take (i := 1) (v := undef) rfl ?_ ?_ ?_ (fun _ _ _ h => h) ?_ ?_ ?_; kernel_rfl; kernel_rfl; kernel_rfl; exact Or.inr ⟨by rfl, rfl⟩; exact hH) | (refine wpAnyH_take (i := 1) (v := ?_) rfl ?_ ?_ ?_ (fun _ _ _ h => h) ?_ ?_ ?_; rotate_left; kernel_rfl; kernel_rfl; kernel_rfl; (focus (refine Or.inl ⟨by rfl, ?_⟩; intro w' hSw; (try dsimp only at hSw); go_simp)); exact hH) | (refine wpAnyH_take (i := 1) (v := ?_) rfl ?_ ?_ ?_ (fun _ _ _ h => h) ?_ ?_ ?_; rotate_left; kernel_rfl; kernel_rfl; kernel_rfl; (focus (refine Or.inl ⟨by rfl, ?_⟩; intro w' hSw; (try dsimp only at hSw); go_simp; with_reducible rfl)); exact hH)
          try simp only [Act.put, List.getElem_toArray, List.getElem_cons_succ, List.getElem_cons_zero, List.setIfInBounds_toArray, List.set_cons_zero, List.set_cons_succ]
          first | (refine wpAnyH_take (i := 2) (v := undef) rfl ?_ ?_ ?_ (fun _ _ _ h => h) ?_ ?_ ?_; kernel_rfl; kernel_rfl; kernel_rfl; exact Or.inr ⟨by rfl, rfl⟩; exact hH) | (refine wpAnyH_take (i := 2) (v := ?_) rfl ?_ ?_ ?_ (fun _ _ _ h => h) ?_ ?_ ?_; rotate_left; kernel_rfl; kernel_rfl; kernel_rfl; (focus (refine Or.inl ⟨by rfl, ?_⟩; intro w' hSw; (try dsimp only at hSw); go_simp)); exact hH) | (refine wpAnyH_take (i := 2) (v := ?_) rfl ?_ ?_ ?_ (fun _ _ _ h => h) ?_ ?_ ?_; rotate_left; kernel_rfl; kernel_rfl; kernel_rfl; (focus (refine Or.inl ⟨by rfl, ?_⟩; intro w' hSw; (try dsimp only at hSw); go_simp; with_reducible rfl)); exact hH)
          try simp only [Act.put, List.getElem_toArray, List.getElem_cons_succ, List.getElem_cons_zero, List.setIfInBounds_toArray, List.set_cons_zero, List.set_cons_succ]
          first | (refine wpAnyH_take (i := 4) (v := undef) rfl ?_ ?_ ?_ (fun _ _ _ h => h) ?_ ?_ ?_; kernel_rfl; kernel_rfl; kernel_rfl; exact Or.inr ⟨by rfl, rfl⟩; exact hH) | (refine wpAnyH_take (i := 4) (v := ?_) rfl ?_ ?_ ?_ (fun _ _ _ h => h) ?_ ?_ ?_; rotate_left; kernel_rfl; kernel_rfl; kernel_rfl; (focus (refine Or.inl ⟨by rfl, ?_⟩; intro w' hSw; (try dsimp only at hSw); go_simp)); exact hH) | (refine wpAnyH_take (i := 4) (v := ?_) rfl ?_ ?_ ?_ (fun _ _ _ h => h) ?_ ?_ ?_; rotate_left; kernel_rfl; kernel_rfl; kernel_rfl; (focus (refine Or.inl ⟨by rfl, ?_⟩; intro w' hSw; (try dsimp only at hSw); go_simp; with_reducible rfl)); exact hH)
          try simp only [Act.put, List.getElem_toArray, List.getElem_cons_succ, List.getElem_cons_zero, List.setIfInBounds_toArray, List.set_cons_zero, List.set_cons_succ]
          first | (refine wpAnyH_take (i := 5) (v := undef) rfl ?_ ?_ ?_ (fun _ _ _ h => h) ?_ ?_ ?_; kernel_rfl; kernel_rfl; kernel_rfl; exact Or.inr ⟨by rfl, rfl⟩; exact hH) | (refine wpAnyH_take (i := 5) (v := ?_) rfl ?_ ?_ ?_ (fun _ _ _ h => h) ?_ ?_ ?_; rotate_left; kernel_rfl; kernel_rfl; kernel_rfl; (focus (refine Or.inl ⟨by rfl, ?_⟩; intro w' hSw; (try dsimp only at hSw); go_simp)); exact hH) | (refine wpAnyH_take (i := 5) (v := ?_) rfl ?_ ?_ ?_ (fun _ _ _ h => h) ?_ ?_ ?_; rotate_left; kernel_rfl; kernel_rfl; kernel_rfl; (focus (refine Or.inl ⟨by rfl, ?_⟩; intro w' hSw; (try dsimp only at hSw); go_simp; with_reducible rfl)); exact hH)
          try simp only [Act.put, List.getElem_toArray, List.getElem_cons_succ, List.getElem_cons_zero, List.setIfInBounds_toArray, List.set_cons_zero, List.set_cons_succ]
          first | (refine wpAnyH_take (i := 6) (v := undef) rfl ?_ ?_ ?_ (fun _ _ _ h => h) ?_ ?_ ?_; kernel_rfl; kernel_rfl; kernel_rfl; exact Or.inr ⟨by rfl, rfl⟩; exact hH) | (refine wpAnyH_take (i := 6) (v := ?_) rfl ?_ ?_ ?_ (fun _ _ _ h => h) ?_ ?_ ?_; rotate_left; kernel_rfl; kernel_rfl; kernel_rfl; (focus (refine Or.inl ⟨by rfl, ?_⟩; intro w' hSw; (try dsimp only at hSw); go_simp)); exact hH) | (refine wpAnyH_take (i := 6) (v := ?_) rfl ?_ ?_ ?_ (fun _ _ _ h => h) ?_ ?_ ?_; rotate_left; kernel_rfl; kernel_rfl; kernel_rfl; (focus (refine Or.inl ⟨by rfl, ?_⟩; intro w' hSw; (try dsimp only at hSw); go_simp; with_reducible rfl)); exact hH)
          try simp only [Act.put, List.getElem_toArray, List.getElem_cons_succ, List.getElem_cons_zero, List.setIfInBounds_toArray, List.set_cons_zero, List.set_cons_succ]
          refine wpAnyH_ready (rs := [3]) (by kernel_rfl) (by simp) ?_
          refine (AllReadyH.cons rfl (fun K hK => ?_) AllReadyH.nil)
          go_simp
          with_reducible refine (ru_dropAny T t (a1, a2) _ (HZ.out.1.next (below_of_drew (Below.refl wz.heap.size wz))).a.is HLN.out.1).mono ?_
          rintro e w1 ⟨rfl, t2, ht1, hi1⟩
          rw [HZ.out.2, HER.out]
          rw [HZ.out.2] at hi1
          have fr1 : Fr (fun j => j ≠ B8) wz w1 := hH.2.trans (ht1.apart HO.out.1)
          have HA3 := Lib.hid (And.intro ((HZ.out.1.next (below_of_drew (Below.refl wz.heap.size wz))).tree ht1) hi1)
          clear ht1 hi1
          refine hK.out _ _ (KQ.out _ fr1) (fun hH1 => ?_)
          clear hK K hH
          have hH := hH1
          clear hH1
          try simp only [Act.put, List.getElem_toArray, List.getElem_cons_succ, List.getElem_cons_zero, List.setIfInBounds_toArray, List.set_cons_zero, List.set_cons_succ]
          refine wpAnyH_ready (rs := [7]) (by kernel_rfl) (by simp) ?_
          refine (AllReadyH.cons rfl (fun K hK => ?_) AllReadyH.nil)
          go_simp
          with_reducible refine (pair_drop HA3.out.1 HRI.out HLN.out.2 (a1, a2)).mono ?_
          rintro e w2 ⟨rfl, v2, hp2, hf2, -⟩
          rw [HER.out]
          have fr2 : Fr (fun j => j ≠ B8) wz w2 := hH.2.trans (rowS_apart hf2 HO.out.2)
          have HA7 := Lib.hid (And.intro hp2 (HB8.out.fr fr2 (fun h => h rfl)))
          clear hp2 hf2
          refine hK.out _ _ (KQ.out _ fr2) (fun hH2 => ?_)
          clear hK K hH
          have hH := hH2
          clear hH2
          try simp only [Act.put, List.getElem_toArray, List.getElem_cons_succ, List.getElem_cons_zero, List.setIfInBounds_toArray, List.set_cons_zero, List.set_cons_succ]
          first | (refine wpAnyH_take (i := 8) (v := undef) rfl ?_ ?_ ?_ (fun _ _ _ h => h) ?_ ?_ ?_; kernel_rfl; kernel_rfl; kernel_rfl; exact Or.inr ⟨by rfl, rfl⟩; exact hH) | (refine wpAnyH_take (i := 8) (v := ?_) rfl ?_ ?_ ?_ (fun _ _ _ h => h) ?_ ?_ ?_; rotate_left; kernel_rfl; kernel_rfl; kernel_rfl; (focus (refine Or.inl ⟨by rfl, ?_⟩; intro w' hSw; (try dsimp only at hSw); go_simp)); exact hH) | (refine wpAnyH_take (i := 8) (v := ?_) rfl ?_ ?_ ?_ (fun _ _ _ h => h) ?_ ?_ ?_; rotate_left; kernel_rfl; kernel_rfl; kernel_rfl; (focus (refine Or.inl ⟨by rfl, ?_⟩; intro w' hSw; (try dsimp only at hSw); go_simp; with_reducible rfl)); exact hH)
          try simp only [Act.put, List.getElem_toArray, List.getElem_cons_succ, List.getElem_cons_zero, List.setIfInBounds_toArray, List.set_cons_zero, List.set_cons_succ]
          refine wpAnyH_done (by kernel_rfl) ?_ _
          refine NoPanic.normal ?_
          clear hH KQ
          have HP2 : Hid (Pair w w2 T t2 r v2 (actsRow N I V D (i + 1))) := by rw [HSTEP.out]; exact HA7.out.1
          have HI2 : Hid (t2.items = actsRow N I V D (i + 1)) := by rw [HSTEP.out]; exact HA3.out.2
          have HB2 := Lib.hid HA7.out.2
          have AN := Lib.hid (acts_rises N I V D (i + 1))
          have AL : Hid ((actsRow N I V D (i + 1)).length ≤ 65535) := show _ ≤ _ by have := actsRow_len N I V D (i + 1); have := HN.out; omega
          obtain ⟨L, hL⟩ : ∃ x, actsRow N I V D (i + 1) = x := ⟨_, rfl⟩
          rw [hL] at HP2 HI2 AN AL
          have HAR := Lib.hid hL
          clear hL HA3 HA7
          have x0 := HB2.out.get 0 rfl
          have x1 := HB2.out.get 1 rfl
          have GET := Lib.hid (ru_get T t2 (a1, a2) w2 HP2.out.a.is)
          rw [HI2.out] at GET
          rcases hg : get (a1, a2) L with _ | gx
          · have HG := Lib.hid hg
            rw [hg] at GET
            clear hg
            go_wp2_with fail
            with_reducible refine (GET.out).mono ?_
            rintro e wu ⟨rfl, hb⟩
            have HP3 := Lib.hid (HP2.out.next hb)
            have HB3 := Lib.hid (HB2.out.next hb)
            clear hb GET x0 x1
            have x0 := HB3.out.get 0 rfl
            have x1 := HB3.out.get 1 rfl
            have ATT := Lib.hid (k_at r w.heap.size v2 L (a1, a2) wu HP3.out.row AN.out AL.out)
            go_wp2_with fail
            with_reducible refine (ATT.out).mono ?_
            rintro e wv ⟨hb, q, rfl, hq⟩
            obtain rfl : q = -1 := by
              rcases hq with hq | ⟨j, y, -, -, hq⟩
              · exact hq.2
              · rw [HG.out] at hq; cases hq
            have HP4 := Lib.hid (HP3.out.next hb)
            clear hb hq ATT x0 x1
            have SM := Lib.hid (rb_same T t2 r w.heap.size v2 wv HP4.out.a.is (by rw [HI2.out]; exact HP4.out.row) (by rw [HI2.out]; exact AL.out))
            go_wp2_with fail
            with_reducible refine (SM.out).mono ?_
            rintro e wy ⟨rfl, hb⟩
            have HPZ := Lib.hid (HP4.out.next hb)
            clear hb SM
            go_wp2
            go_roundg gm
            case rel => exact ⟨i + 1, t2, v2, by omega, by go_num, by rw [HAR.out]; exact HPZ.out, by rw [HAR.out]; exact HI2.out⟩
            case measure => omega
          
          · have HG := Lib.hid hg
            rw [hg] at GET
            clear hg
            go_wp2_with fail
            with_reducible refine (GET.out).mono ?_
            rintro e wu ⟨rfl, hb⟩
            have HP3 := Lib.hid (HP2.out.next hb)
            have HB3 := Lib.hid (HB2.out.next hb)
            clear hb GET x0 x1
            have x0 := HB3.out.get 0 rfl
            have x1 := HB3.out.get 1 rfl
            have ATT := Lib.hid (k_at r w.heap.size v2 L (a1, a2) wu HP3.out.row AN.out AL.out)
            go_wp2_with fail
            with_reducible refine (ATT.out).mono ?_
            rintro e wv ⟨hb, q, rfl, hq⟩
            obtain ⟨m, rfl, hm⟩ : ∃ m : Nat, q = (m : Int) ∧ L[m]? = some ((a1, a2), gx) := by
              rcases hq with hq | ⟨j, y, e1, e2, hq⟩
              · rw [HG.out] at hq; cases hq.1
              · rw [HG.out] at hq; cases hq; exact ⟨j, e1, e2⟩
            have HP4 := Lib.hid (HP3.out.next hb)
            have HM := Lib.hid hm
            clear hb hq hm ATT x0 x1
            have SM := Lib.hid (rb_same T t2 r w.heap.size v2 wv HP4.out.a.is (by rw [HI2.out]; exact HP4.out.row) (by rw [HI2.out]; exact AL.out))
            go_wp2_with fail
            with_reducible refine (SM.out).mono ?_
            rintro e wy ⟨rfl, hb⟩
            have HPZ := Lib.hid (HP4.out.next hb)
            clear hb SM
            obtain ⟨Q, cq, hv2, -, -, -⟩ := HPZ.out.row.form
            have HV2 := Lib.hid hv2
            have hkr := HPZ.out.row
            rw [hv2] at hkr
            clear hv2
            obtain ⟨g, rfl, -, -, -, xg⟩ := hkr.cells HM.out
            have xr := hkr.head.get 0 rfl
            dsimp only at xg
            have hml : m < L.length := (List.getElem?_eq_some_iff.1 HM.out).1
            generalize L.length = l at xr hml
            have q0 : (0 : Int) ≤ (m : Int) := by omega
            have q1 : (m : Int) < (l : Int) := by omega
            have q2 : decide ((0 : Int) ≤ (m : Int)) = true := decide_eq_true q0
            clear hkr
            go_wp2
            go_roundg gm
            case rel => exact ⟨i + 1, t2, v2, by omega, by go_num, by rw [HAR.out]; exact HPZ.out, by rw [HAR.out]; exact HI2.out⟩
            case measure => omega
        
        | false =>
          go_upto_region 22 with (fail)
          clear x3 xl
          have KQ : Hid (∀ w', Fr ((fun j => j ≠ B8)) wz w' → (w'.cell? ⟨B8, 0, none⟩ = some (.int .u64 a1) ∧ w'.cell? ⟨B8, 1, none⟩ = some (.int .i64 a2) ∧ w'.cell? ⟨B8, 2, none⟩ = some (.int .u64 a3)) ∧ Fr ((fun j => j ≠ B8)) wz w') := fun w' hb => ⟨⟨((HB8.out.fr hb (fun h => h rfl)).get 0 rfl), ((HB8.out.fr hb (fun h => h rfl)).get 1 rfl), ((HB8.out.fr hb (fun h => h rfl)).get 2 rfl)⟩, hb⟩
          obtain ⟨er, her⟩ : ∃ x, putE (a1, a2) L0 = x := ⟨_, rfl⟩
          have HER := Lib.hid her
          clear her
          refine wp_region_noPanic ?_
          refine wp_region_held_drew (S := fun w' => (w'.cell? ⟨B8, 0, none⟩ = some (.int .u64 a1) ∧ w'.cell? ⟨B8, 1, none⟩ = some (.int .i64 a2) ∧ w'.cell? ⟨B8, 2, none⟩ = some (.int .u64 a3)) ∧ Fr ((fun j => j ≠ B8)) wz w') (by kernel_rfl) (KQ.out _ (Fr.drew ((Fr.refl (fun j => j ≠ B8) wz)))) (fun hH => ?_)
          have hbR := Fr.drew ((Fr.refl (fun j => j ≠ B8) wz))
          first | (refine wpAnyH_take (i := 0) (v := undef) rfl ?_ ?_ ?_ (fun _ _ _ h => h) ?_ ?_ ?_; kernel_rfl; kernel_rfl; kernel_rfl; exact Or.inr ⟨by rfl, rfl⟩; exact hH) | (refine wpAnyH_take (i := 0) (v := ?_) rfl ?_ ?_ ?_ (fun _ _ _ h => h) ?_ ?_ ?_; rotate_left; kernel_rfl; kernel_rfl; kernel_rfl; (focus (refine Or.inl ⟨by rfl, ?_⟩; intro w' hSw; (try dsimp only at hSw); go_simp)); exact hH) | (refine wpAnyH_take (i := 0) (v := ?_) rfl ?_ ?_ ?_ (fun _ _ _ h => h) ?_ ?_ ?_; rotate_left; kernel_rfl; kernel_rfl; kernel_rfl; (focus (refine Or.inl ⟨by rfl, ?_⟩; intro w' hSw; (try dsimp only at hSw); go_simp; with_reducible rfl)); exact hH)
          try simp only [Act.put, List.getElem_toArray, List.getElem_cons_succ, List.getElem_cons_zero, List.setIfInBounds_toArray, List.set_cons_zero, List.set_cons_succ]
          first | (refine wpAnyH_take (i := 1) (v := undef) rfl ?_ ?_ ?_ (fun _ _ _ h => h) ?_ ?_ ?_; kernel_rfl; kernel_rfl; kernel_rfl; exact Or.inr ⟨by rfl, rfl⟩; exact hH) | (refine wpAnyH_take (i := 1) (v := ?_) rfl ?_ ?_ ?_ (fun _ _ _ h => h) ?_ ?_ ?_; rotate_left; kernel_rfl; kernel_rfl; kernel_rfl; (focus (refine Or.inl ⟨by rfl, ?_⟩; intro w' hSw; (try dsimp only at hSw); go_simp)); exact hH) | (refine wpAnyH_take (i := 1) (v := ?_) rfl ?_ ?_ ?_ (fun _ _ _ h => h) ?_ ?_ ?_; rotate_left; kernel_rfl; kernel_rfl; kernel_rfl; (focus (refine Or.inl ⟨by rfl, ?_⟩; intro w' hSw; (try dsimp only at hSw); go_simp; with_reducible rfl)); exact hH)
          try simp only [Act.put, List.getElem_toArray, List.getElem_cons_succ, List.getElem_cons_zero, List.setIfInBounds_toArray, List.set_cons_zero, List.set_cons_succ]
          first | (refine wpAnyH_take (i := 2) (v := undef) rfl ?_ ?_ ?_ (fun _ _ _ h => h) ?_ ?_ ?_; kernel_rfl; kernel_rfl; kernel_rfl; exact Or.inr ⟨by rfl, rfl⟩; exact hH) | (refine wpAnyH_take (i := 2) (v := ?_) rfl ?_ ?_ ?_ (fun _ _ _ h => h) ?_ ?_ ?_; rotate_left; kernel_rfl; kernel_rfl; kernel_rfl; (focus (refine Or.inl ⟨by rfl, ?_⟩; intro w' hSw; (try dsimp only at hSw); go_simp)); exact hH) | (refine wpAnyH_take (i := 2) (v := ?_) rfl ?_ ?_ ?_ (fun _ _ _ h => h) ?_ ?_ ?_; rotate_left; kernel_rfl; kernel_rfl; kernel_rfl; (focus (refine Or.inl ⟨by rfl, ?_⟩; intro w' hSw; (try dsimp only at hSw); go_simp; with_reducible rfl)); exact hH)
          try simp only [Act.put, List.getElem_toArray, List.getElem_cons_succ, List.getElem_cons_zero, List.setIfInBounds_toArray, List.set_cons_zero, List.set_cons_succ]
          first | (refine wpAnyH_take (i := 3) (v := undef) rfl ?_ ?_ ?_ (fun _ _ _ h => h) ?_ ?_ ?_; kernel_rfl; kernel_rfl; kernel_rfl; exact Or.inr ⟨by rfl, rfl⟩; exact hH) | (refine wpAnyH_take (i := 3) (v := ?_) rfl ?_ ?_ ?_ (fun _ _ _ h => h) ?_ ?_ ?_; rotate_left; kernel_rfl; kernel_rfl; kernel_rfl; (focus (refine Or.inl ⟨by rfl, ?_⟩; intro w' hSw; (try dsimp only at hSw); go_simp)); exact hH) | (refine wpAnyH_take (i := 3) (v := ?_) rfl ?_ ?_ ?_ (fun _ _ _ h => h) ?_ ?_ ?_; rotate_left; kernel_rfl; kernel_rfl; kernel_rfl; (focus (refine Or.inl ⟨by rfl, ?_⟩; intro w' hSw; (try dsimp only at hSw); go_simp; with_reducible rfl)); exact hH)
          try simp only [Act.put, List.getElem_toArray, List.getElem_cons_succ, List.getElem_cons_zero, List.setIfInBounds_toArray, List.set_cons_zero, List.set_cons_succ]
          first | (refine wpAnyH_take (i := 4) (v := undef) rfl ?_ ?_ ?_ (fun _ _ _ h => h) ?_ ?_ ?_; kernel_rfl; kernel_rfl; kernel_rfl; exact Or.inr ⟨by rfl, rfl⟩; exact hH) | (refine wpAnyH_take (i := 4) (v := ?_) rfl ?_ ?_ ?_ (fun _ _ _ h => h) ?_ ?_ ?_; rotate_left; kernel_rfl; kernel_rfl; kernel_rfl; (focus (refine Or.inl ⟨by rfl, ?_⟩; intro w' hSw; (try dsimp only at hSw); go_simp)); exact hH) | (refine wpAnyH_take (i := 4) (v := ?_) rfl ?_ ?_ ?_ (fun _ _ _ h => h) ?_ ?_ ?_; rotate_left; kernel_rfl; kernel_rfl; kernel_rfl; (focus (refine Or.inl ⟨by rfl, ?_⟩; intro w' hSw; (try dsimp only at hSw); go_simp; with_reducible rfl)); exact hH)
          try simp only [Act.put, List.getElem_toArray, List.getElem_cons_succ, List.getElem_cons_zero, List.setIfInBounds_toArray, List.set_cons_zero, List.set_cons_succ]
          first | (refine wpAnyH_take (i := 6) (v := undef) rfl ?_ ?_ ?_ (fun _ _ _ h => h) ?_ ?_ ?_; kernel_rfl; kernel_rfl; kernel_rfl; exact Or.inr ⟨by rfl, rfl⟩; exact hH) | (refine wpAnyH_take (i := 6) (v := ?_) rfl ?_ ?_ ?_ (fun _ _ _ h => h) ?_ ?_ ?_; rotate_left; kernel_rfl; kernel_rfl; kernel_rfl; (focus (refine Or.inl ⟨by rfl, ?_⟩; intro w' hSw; (try dsimp only at hSw); go_simp)); exact hH) | (refine wpAnyH_take (i := 6) (v := ?_) rfl ?_ ?_ ?_ (fun _ _ _ h => h) ?_ ?_ ?_; rotate_left; kernel_rfl; kernel_rfl; kernel_rfl; (focus (refine Or.inl ⟨by rfl, ?_⟩; intro w' hSw; (try dsimp only at hSw); go_simp; with_reducible rfl)); exact hH)
          try simp only [Act.put, List.getElem_toArray, List.getElem_cons_succ, List.getElem_cons_zero, List.setIfInBounds_toArray, List.set_cons_zero, List.set_cons_succ]
          first | (refine wpAnyH_take (i := 7) (v := undef) rfl ?_ ?_ ?_ (fun _ _ _ h => h) ?_ ?_ ?_; kernel_rfl; kernel_rfl; kernel_rfl; exact Or.inr ⟨by rfl, rfl⟩; exact hH) | (refine wpAnyH_take (i := 7) (v := ?_) rfl ?_ ?_ ?_ (fun _ _ _ h => h) ?_ ?_ ?_; rotate_left; kernel_rfl; kernel_rfl; kernel_rfl; (focus (refine Or.inl ⟨by rfl, ?_⟩; intro w' hSw; (try dsimp only at hSw); go_simp)); exact hH) | (refine wpAnyH_take (i := 7) (v := ?_) rfl ?_ ?_ ?_ (fun _ _ _ h => h) ?_ ?_ ?_; rotate_left; kernel_rfl; kernel_rfl; kernel_rfl; (focus (refine Or.inl ⟨by rfl, ?_⟩; intro w' hSw; (try dsimp only at hSw); go_simp; with_reducible rfl)); exact hH)
          try simp only [Act.put, List.getElem_toArray, List.getElem_cons_succ, List.getElem_cons_zero, List.setIfInBounds_toArray, List.set_cons_zero, List.set_cons_succ]
          first | (refine wpAnyH_take (i := 8) (v := undef) rfl ?_ ?_ ?_ (fun _ _ _ h => h) ?_ ?_ ?_; kernel_rfl; kernel_rfl; kernel_rfl; exact Or.inr ⟨by rfl, rfl⟩; exact hH) | (refine wpAnyH_take (i := 8) (v := ?_) rfl ?_ ?_ ?_ (fun _ _ _ h => h) ?_ ?_ ?_; rotate_left; kernel_rfl; kernel_rfl; kernel_rfl; (focus (refine Or.inl ⟨by rfl, ?_⟩; intro w' hSw; (try dsimp only at hSw); go_simp)); exact hH) | (refine wpAnyH_take (i := 8) (v := ?_) rfl ?_ ?_ ?_ (fun _ _ _ h => h) ?_ ?_ ?_; rotate_left; kernel_rfl; kernel_rfl; kernel_rfl; (focus (refine Or.inl ⟨by rfl, ?_⟩; intro w' hSw; (try dsimp only at hSw); go_simp; with_reducible rfl)); exact hH)
          try simp only [Act.put, List.getElem_toArray, List.getElem_cons_succ, List.getElem_cons_zero, List.setIfInBounds_toArray, List.set_cons_zero, List.set_cons_succ]
          first | (refine wpAnyH_take (i := 9) (v := undef) rfl ?_ ?_ ?_ (fun _ _ _ h => h) ?_ ?_ ?_; kernel_rfl; kernel_rfl; kernel_rfl; exact Or.inr ⟨by rfl, rfl⟩; exact hH) | (refine wpAnyH_take (i := 9) (v := ?_) rfl ?_ ?_ ?_ (fun _ _ _ h => h) ?_ ?_ ?_; rotate_left; kernel_rfl; kernel_rfl; kernel_rfl; (focus (refine Or.inl ⟨by rfl, ?_⟩; intro w' hSw; (try dsimp only at hSw); go_simp)); exact hH) | (refine wpAnyH_take (i := 9) (v := ?_) rfl ?_ ?_ ?_ (fun _ _ _ h => h) ?_ ?_ ?_; rotate_left; kernel_rfl; kernel_rfl; kernel_rfl; (focus (refine Or.inl ⟨by rfl, ?_⟩; intro w' hSw; (try dsimp only at hSw); go_simp; with_reducible rfl)); exact hH)
          try simp only [Act.put, List.getElem_toArray, List.getElem_cons_succ, List.getElem_cons_zero, List.setIfInBounds_toArray, List.set_cons_zero, List.set_cons_succ]
          first | (refine wpAnyH_take (i := 10) (v := undef) rfl ?_ ?_ ?_ (fun _ _ _ h => h) ?_ ?_ ?_; kernel_rfl; kernel_rfl; kernel_rfl; exact Or.inr ⟨by rfl, rfl⟩; exact hH) | (refine wpAnyH_take (i := 10) (v := ?_) rfl ?_ ?_ ?_ (fun _ _ _ h => h) ?_ ?_ ?_; rotate_left; kernel_rfl; kernel_rfl; kernel_rfl; (focus (refine Or.inl ⟨by rfl, ?_⟩; intro w' hSw; (try dsimp only at hSw); go_simp)); exact hH) | (refine wpAnyH_take (i := 10) (v := ?_) rfl ?_ ?_ ?_ (fun _ _ _ h => h) ?_ ?_ ?_; rotate_left; kernel_rfl; kernel_rfl; kernel_rfl; (focus (refine Or.inl ⟨by rfl, ?_⟩; intro w' hSw; (try dsimp only at hSw); go_simp; with_reducible rfl)); exact hH)
          try simp only [Act.put, List.getElem_toArray, List.getElem_cons_succ, List.getElem_cons_zero, List.setIfInBounds_toArray, List.set_cons_zero, List.set_cons_succ]
          refine wpAnyH_ready (rs := [5]) (by kernel_rfl) (by simp) ?_
          refine (AllReadyH.cons rfl (fun K hK => ?_) AllReadyH.nil)
          go_simp
          with_reducible refine (ru_putAny T t (a1, a2) a3 _ (HZ.out.1.next (below_of_drew (Below.refl wz.heap.size wz))).a.is HLN.out.1).mono ?_
          rintro e w1 ⟨rfl, t2, ht1, hi1⟩
          rw [HZ.out.2, HER.out]
          rw [HZ.out.2] at hi1
          have fr1 : Fr (fun j => j ≠ B8) wz w1 := hH.2.trans (ht1.apart HO.out.1)
          have HA3 := Lib.hid (And.intro ((HZ.out.1.next (below_of_drew (Below.refl wz.heap.size wz))).tree ht1) hi1)
          clear ht1 hi1
          refine hK.out _ _ (KQ.out _ fr1) (fun hH1 => ?_)
          clear hK K hH
          have hH := hH1
          clear hH1
          try simp only [Act.put, List.getElem_toArray, List.getElem_cons_succ, List.getElem_cons_zero, List.setIfInBounds_toArray, List.set_cons_zero, List.set_cons_succ]
          refine wpAnyH_ready (rs := [11]) (by kernel_rfl) (by simp) ?_
          refine (AllReadyH.cons rfl (fun K hK => ?_) AllReadyH.nil)
          go_simp
          with_reducible refine (pair_put HA3.out.1 HRI.out HLN.out.2 (a1, a2) a3).mono ?_
          rintro e w2 ⟨rfl, v2, hp2, hf2, -⟩
          rw [HER.out]
          have fr2 : Fr (fun j => j ≠ B8) wz w2 := hH.2.trans (rowS_apart hf2 HO.out.2)
          have HA7 := Lib.hid (And.intro hp2 (HB8.out.fr fr2 (fun h => h rfl)))
          clear hp2 hf2
          refine hK.out _ _ (KQ.out _ fr2) (fun hH2 => ?_)
          clear hK K hH
          have hH := hH2
          clear hH2
          try simp only [Act.put, List.getElem_toArray, List.getElem_cons_succ, List.getElem_cons_zero, List.setIfInBounds_toArray, List.set_cons_zero, List.set_cons_succ]
          first | (refine wpAnyH_take (i := 12) (v := undef) rfl ?_ ?_ ?_ (fun _ _ _ h => h) ?_ ?_ ?_; kernel_rfl; kernel_rfl; kernel_rfl; exact Or.inr ⟨by rfl, rfl⟩; exact hH) | (refine wpAnyH_take (i := 12) (v := ?_) rfl ?_ ?_ ?_ (fun _ _ _ h => h) ?_ ?_ ?_; rotate_left; kernel_rfl; kernel_rfl; kernel_rfl; (focus (refine Or.inl ⟨by rfl, ?_⟩; intro w' hSw; (try dsimp only at hSw); go_simp)); exact hH) | (refine wpAnyH_take (i := 12) (v := ?_) rfl ?_ ?_ ?_ (fun _ _ _ h => h) ?_ ?_ ?_; rotate_left; kernel_rfl; kernel_rfl; kernel_rfl; (focus (refine Or.inl ⟨by rfl, ?_⟩; intro w' hSw; (try dsimp only at hSw); go_simp; with_reducible rfl)); exact hH)
          try simp only [Act.put, List.getElem_toArray, List.getElem_cons_succ, List.getElem_cons_zero, List.setIfInBounds_toArray, List.set_cons_zero, List.set_cons_succ]
          refine wpAnyH_done (by kernel_rfl) ?_ _
          refine NoPanic.normal ?_
          clear hH KQ
          have HP2 : Hid (Pair w w2 T t2 r v2 (actsRow N I V D (i + 1))) := by rw [HSTEP.out]; exact HA7.out.1
          have HI2 : Hid (t2.items = actsRow N I V D (i + 1)) := by rw [HSTEP.out]; exact HA3.out.2
          have HB2 := Lib.hid HA7.out.2
          have AN := Lib.hid (acts_rises N I V D (i + 1))
          have AL : Hid ((actsRow N I V D (i + 1)).length ≤ 65535) := show _ ≤ _ by have := actsRow_len N I V D (i + 1); have := HN.out; omega
          obtain ⟨L, hL⟩ : ∃ x, actsRow N I V D (i + 1) = x := ⟨_, rfl⟩
          rw [hL] at HP2 HI2 AN AL
          have HAR := Lib.hid hL
          clear hL HA3 HA7
          have x0 := HB2.out.get 0 rfl
          have x1 := HB2.out.get 1 rfl
          have GET := Lib.hid (ru_get T t2 (a1, a2) w2 HP2.out.a.is)
          rw [HI2.out] at GET
          rcases hg : get (a1, a2) L with _ | gx
          · have HG := Lib.hid hg
            rw [hg] at GET
            clear hg
            go_wp2_with fail
            with_reducible refine (GET.out).mono ?_
            rintro e wu ⟨rfl, hb⟩
            have HP3 := Lib.hid (HP2.out.next hb)
            have HB3 := Lib.hid (HB2.out.next hb)
            clear hb GET x0 x1
            have x0 := HB3.out.get 0 rfl
            have x1 := HB3.out.get 1 rfl
            have ATT := Lib.hid (k_at r w.heap.size v2 L (a1, a2) wu HP3.out.row AN.out AL.out)
            go_wp2_with fail
            with_reducible refine (ATT.out).mono ?_
            rintro e wv ⟨hb, q, rfl, hq⟩
            obtain rfl : q = -1 := by
              rcases hq with hq | ⟨j, y, -, -, hq⟩
              · exact hq.2
              · rw [HG.out] at hq; cases hq
            have HP4 := Lib.hid (HP3.out.next hb)
            clear hb hq ATT x0 x1
            have SM := Lib.hid (rb_same T t2 r w.heap.size v2 wv HP4.out.a.is (by rw [HI2.out]; exact HP4.out.row) (by rw [HI2.out]; exact AL.out))
            go_wp2_with fail
            with_reducible refine (SM.out).mono ?_
            rintro e wy ⟨rfl, hb⟩
            have HPZ := Lib.hid (HP4.out.next hb)
            clear hb SM
            go_wp2
            go_roundg gm
            case rel => exact ⟨i + 1, t2, v2, by omega, by go_num, by rw [HAR.out]; exact HPZ.out, by rw [HAR.out]; exact HI2.out⟩
            case measure => omega
          
          · have HG := Lib.hid hg
            rw [hg] at GET
            clear hg
            go_wp2_with fail
            with_reducible refine (GET.out).mono ?_
            rintro e wu ⟨rfl, hb⟩
            have HP3 := Lib.hid (HP2.out.next hb)
            have HB3 := Lib.hid (HB2.out.next hb)
            clear hb GET x0 x1
            have x0 := HB3.out.get 0 rfl
            have x1 := HB3.out.get 1 rfl
            have ATT := Lib.hid (k_at r w.heap.size v2 L (a1, a2) wu HP3.out.row AN.out AL.out)
            go_wp2_with fail
            with_reducible refine (ATT.out).mono ?_
            rintro e wv ⟨hb, q, rfl, hq⟩
            obtain ⟨m, rfl, hm⟩ : ∃ m : Nat, q = (m : Int) ∧ L[m]? = some ((a1, a2), gx) := by
              rcases hq with hq | ⟨j, y, e1, e2, hq⟩
              · rw [HG.out] at hq; cases hq.1
              · rw [HG.out] at hq; cases hq; exact ⟨j, e1, e2⟩
            have HP4 := Lib.hid (HP3.out.next hb)
            have HM := Lib.hid hm
            clear hb hq hm ATT x0 x1
            have SM := Lib.hid (rb_same T t2 r w.heap.size v2 wv HP4.out.a.is (by rw [HI2.out]; exact HP4.out.row) (by rw [HI2.out]; exact AL.out))
            go_wp2_with fail
            with_reducible refine (SM.out).mono ?_
            rintro e wy ⟨rfl, hb⟩
            have HPZ := Lib.hid (HP4.out.next hb)
            clear hb SM
            obtain ⟨Q, cq, hv2, -, -, -⟩ := HPZ.out.row.form
            have HV2 := Lib.hid hv2
            have hkr := HPZ.out.row
            rw [hv2] at hkr
            clear hv2
            obtain ⟨g, rfl, -, -, -, xg⟩ := hkr.cells HM.out
            have xr := hkr.head.get 0 rfl
            dsimp only at xg
            have hml : m < L.length := (List.getElem?_eq_some_iff.1 HM.out).1
            generalize L.length = l at xr hml
            have q0 : (0 : Int) ≤ (m : Int) := by omega
            have q1 : (m : Int) < (l : Int) := by omega
            have q2 : decide ((0 : Int) ≤ (m : Int)) = true := decide_eq_true q0
            clear hkr
            go_wp2
            go_roundg gm
            case rel => exact ⟨i + 1, t2, v2, by omega, by go_num, by rw [HAR.out]; exact HPZ.out, by rw [HAR.out]; exact HI2.out⟩
            case measure => omega

    · obtain rfl : go = 0 := by omega
      obtain rfl : i = n := by omega
      go_wp2
      go_ret
      exact ⟨rfl, HP.out.1.a.below⟩

end Go.Proofs.Ytjlnbpomncglcaa

