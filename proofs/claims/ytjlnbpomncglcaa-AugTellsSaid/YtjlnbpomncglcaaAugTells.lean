/-
  AugTells holds.
-/
import Derived.Test.YtjlnbpomncglcaaProg
import Derived.Test.YtjlnbpomncglcaaAugJ
namespace Go.Proofs.Ytjlnbpomncglcaa
set_option linter.unusedVariables false
set_option linter.unusedSimpArgs false
set_option maxRecDepth 100000
open Go.RowKit Go.Shelf

/-- What a step of the row may change. -/
abbrev RowS9 (r : Nat) (v : Value) : Nat → Prop := fun j => j = r ∨ v.ownBlock = some j
/-- A tree and a row, made since w0, apart. -/
structure APair (w0 w : World) (S : Nat → Prop) (U r : Nat) (v : Value) (L M : Row) : Prop where
  t : Aug w S U L
  row : JRow w r w0.heap.size v M
  g : ∀ j, S j → w0.heap.size ≤ j
  rge : w0.heap.size ≤ r
  out : ¬ S r
  outV : ∀ j, v.ownBlock = some j → ¬ S j
  below : Below w0.heap.size w0 w
theorem APair.next {w0 w w' : World} {S : Nat → Prop} {U r : Nat} {v : Value} {L M : Row} (h : APair w0 w S U r v L M) (hb : Below w.heap.size w w') : APair w0 w' S U r v L M := ⟨h.t.next hb, h.row.next hb, h.g, h.rge, h.out, h.outV, below_next h.below hb⟩
theorem APair.tree {w0 w w' : World} {S : Nat → Prop} {U r : Nat} {v : Value} {L L' M : Row} (h : APair w0 w S U r v L M) (k : AugTo w w' S U L') : ∃ S', APair w0 w' S' U r v L' M ∧ Fr S w w' := by
  obtain ⟨S', h1, h2, h3⟩ := k
  refine ⟨S', ⟨h1, h.row.fr h2 h.out h.outV, fun j hj => ?_, h.rge, fun hj => ?_, fun j hv hj => ?_, h.below.trans (h2.below h.below.size fun j hj hs => by have := h.g j hs; omega)⟩, h2⟩
  · rcases h3 j hj with e | e
    · exact h.g j e
    · exact Nat.le_trans h.below.size e
  · rcases h3 r hj with e | e
    · exact h.out e
    · have := h.row.head.lt; omega
  · rcases h3 j hj with e | e
    · exact h.outV j hv e
    · have := (h.row.own.lt j hv).2; omega
theorem APair.rowStep {w0 w w' : World} {S : Nat → Prop} {U r : Nat} {v v' : Value} {L M M' : Row} (h : APair w0 w S U r v L M) (hr : JRow w' r w0.heap.size v' M') (hf : Fr (RowS9 r v) w w') (hv : ∀ j, v'.ownBlock = some j → RowS9 r v j ∨ w.heap.size ≤ j) : APair w0 w' S U r v' L M' := by
  have hS : ∀ j, S j → ¬ RowS9 r v j := by
    rintro j hj (rfl | hv)
    · exact h.out hj
    · exact h.outV j hv hj
  have hG : ∀ j, RowS9 r v j → w0.heap.size ≤ j := by
    rintro j (rfl | hv)
    · exact h.rge
    · exact (h.row.own.lt j hv).1
  refine ⟨h.t.fr hf hS, hr, h.g, h.rge, h.out, fun j hj hs => ?_, h.below.trans (hf.below h.below.size fun j hj hs => by have := hG j hs; omega)⟩
  rcases hv j hj with e | e
  · exact hS j hs e
  · have := h.t.lt j hs; omega
theorem fr_not {w w' : World} {S : Nat → Prop} {B : Nat} (h : Fr S w w') (hn : ¬ S B) : Fr (fun j => j ≠ B) w w' := h.mono fun j _ hj e => hn (e ▸ hj)
set_option maxHeartbeats 16000000 in
theorem augTells_walk (w : World) (A : Option Addr) (n c : Nat) (I : Nat → Int) (fI : ∀ i, i < n → (Lit.int .i64 (I i)).wf = true) (K : Nat → Int) (fK : ∀ i, i < n → (Lit.int .u64 (K i)).wf = true) (V : Nat → Int) (fV : ∀ i, i < n → (Lit.int .u64 (V i)).wf = true) (D : Nat → Bool) (P : Nat → Int) (fP : ∀ i, i < n → (Lit.int .u64 (P i)).wf = true) (Q : Nat → Int) (fQ : ∀ i, i < n → (Lit.int .u64 (Q i)).wf = true) (hl : n ≤ c) (hm : c ≤ maxLen)
    (hA : 0 < n → ∃ b off, A = some ⟨b, off, none⟩ ∧ b < w.heap.size) (hI : ∀ b off, A = some ⟨b, off, none⟩ → ∀ i, i < n → w.cell? ⟨b, off + (i * 6 + 0), none⟩ = some (.int .i64 (I i))) (hK : ∀ b off, A = some ⟨b, off, none⟩ → ∀ i, i < n → w.cell? ⟨b, off + (i * 6 + 1), none⟩ = some (.int .u64 (K i))) (hV : ∀ b off, A = some ⟨b, off, none⟩ → ∀ i, i < n → w.cell? ⟨b, off + (i * 6 + 2), none⟩ = some (.int .u64 (V i))) (hD : ∀ b off, A = some ⟨b, off, none⟩ → ∀ i, i < n → w.cell? ⟨b, off + (i * 6 + 3), none⟩ = some (.bool (D i))) (hP : ∀ b off, A = some ⟨b, off, none⟩ → ∀ i, i < n → w.cell? ⟨b, off + (i * 6 + 4), none⟩ = some (.int .u64 (P i))) (hQ : ∀ b off, A = some ⟨b, off, none⟩ → ∀ i, i < n → w.cell? ⟨b, off + (i * 6 + 5), none⟩ = some (.int .u64 (Q i))) (at1 : Int) (fat1 : (Lit.int .i64 at1).wf = true) :
    Calls Try.prog 14 #[.slice A n c, .int .i64 at1] w fun e w' => e = .returned (.bool true) ∧ Below w.heap.size w w' := by
  have HA := Lib.hid (aacts_of hA hI hK hV hD hP hQ)
  clear hA hI hK hV hD hP hQ fI fK fV fP fQ hl hm; clear fat1
  by_cases hn : 150 < n
  · have d2 : decide (150 < n) = true := decide_eq_true hn
    have d1 : decide ((150 : Int) < (n : Int)) = true := decide_eq_true (by omega)
    clear hn
    go_enter Try.func14, Try.ntmps14
    go_wp2
    go_ret
    exact ⟨rfl, Below.refl _ _⟩
  have d2 : decide (150 < n) = false := decide_eq_false hn
  have d1 : decide ((150 : Int) < (n : Int)) = false := decide_eq_false (by omega)
  have HN := Lib.hid (show n ≤ 150 by omega)
  clear hn
  go_enter Try.func14, Try.ntmps14
  go_wp2_with fail
  with_reducible refine (ag_new w).mono ?_
  rintro e wa ⟨U, S0, rfl, g1, g2, g3⟩
  have HT1 := Lib.hid (And.intro g1 (And.intro g2 g3))
  clear g1 g2 g3
  go_upto_region 4 with (fail)
  have hbd : Below wa.heap.size wa (wa.alloc (.cells #[.slice none 0 0] 95)) := by go_grown
  have b8 := Blk.new wa 95 #[.slice none 0 0]
  have hpr : APair w (wa.alloc (.cells #[.slice none 0 0] 95)) S0 U wa.heap.size (.slice none 0 0) [] [] := ⟨HT1.out.1.next hbd, ⟨b8, World.ownsRow_nil _ _ _ _⟩, HT1.out.2.1, HT1.out.2.2.size, fun e => by have := HT1.out.1.lt _ e; omega, (fun j hj => by cases hj), below_next HT1.out.2.2 hbd⟩
  clear hbd b8
  generalize wa.heap.size = r at hpr ⊢
  generalize wa.alloc (.cells #[.slice none 0 0] 95) = wd at hpr ⊢
  have HPR1 := Lib.hid hpr
  clear hpr
  go_wp2
  go_loopg [7] n (fun gk ix wr => ∃ (i : Nat) (S : Nat → Prop) (v : Value), i + gk = n ∧ ix = .int .i64 i ∧ APair w wr S U r v (actsA I K V D i) (actsA I K V D i))
  case atStart => exact ⟨0, S0, _, by omega, rfl, HPR1.out⟩
  case round =>
    obtain ⟨i, S, v, hi, rfl, hp⟩ := hrel
    have HP := Lib.hid hp
    clear hp
    obtain ⟨wo, rfl⟩ : ∃ x : World, x = wr := ⟨_, rfl⟩
    obtain ⟨go, rfl⟩ : ∃ x : Nat, x = gk := ⟨_, rfl⟩
    by_cases hlt : i < n
    · obtain ⟨gm, rfl⟩ : ∃ gm, go = gm + 1 := ⟨go - 1, by omega⟩
      obtain ⟨bA, off, rfl, hbA⟩ := HA.out.addr (by omega)
      have HBA := Lib.hid hbA
      have HCE := Lib.hid (HA.out.cells bA off rfl i hlt)
      have c0 := ((HP.out.below).cell (p := ⟨bA, off + i * 6, none⟩) HBA.out).trans HCE.out.1
      have c1 := ((HP.out.below).cell (p := ⟨bA, off + i * 6 + 1, none⟩) HBA.out).trans HCE.out.2.1
      have c2 := ((HP.out.below).cell (p := ⟨bA, off + i * 6 + 2, none⟩) HBA.out).trans HCE.out.2.2.1
      have c3 := ((HP.out.below).cell (p := ⟨bA, off + i * 6 + 3, none⟩) HBA.out).trans HCE.out.2.2.2.1
      have c4 := ((HP.out.below).cell (p := ⟨bA, off + i * 6 + 4, none⟩) HBA.out).trans HCE.out.2.2.2.2.1
      have c5 := ((HP.out.below).cell (p := ⟨bA, off + i * 6 + 5, none⟩) HBA.out).trans HCE.out.2.2.2.2.2
      have hlen2 : (actsA I K V D i).length ≤ 65535 := by have := actsA_len I K V D i; have := HN.out; omega
      have HLN := Lib.hid (And.intro hlen2 (And.intro HP.out.t.once HP.out.t.rises))
      have HL0 : Hid ((actsA I K V D i).length ≤ i) := actsA_len I K V D i
      have HSTEP := Lib.hid (show actsA I K V D (i + 1) = actA (D i) (I i) (K i) (V i) (actsA I K V D i) from rfl)
      have AL : Hid ((actsA I K V D (i + 1)).length ≤ 65535) := show _ ≤ _ by have := actsA_len I K V D (i + 1); have := HN.out; omega
      obtain ⟨L0, hL0⟩ : ∃ x, actsA I K V D i = x := ⟨_, rfl⟩
      rw [hL0] at HP HSTEP HLN HL0
      obtain ⟨b1, hx1⟩ : ∃ x, I i = x := ⟨_, rfl⟩
      obtain ⟨b2, hx2⟩ : ∃ x, K i = x := ⟨_, rfl⟩
      obtain ⟨b3, hx3⟩ : ∃ x, V i = x := ⟨_, rfl⟩
      obtain ⟨b4, hx4⟩ : ∃ x, D i = x := ⟨_, rfl⟩
      obtain ⟨b5, hx5⟩ : ∃ x, P i = x := ⟨_, rfl⟩
      obtain ⟨b6, hx6⟩ : ∃ x, Q i = x := ⟨_, rfl⟩
      rw [hx1, hx2, hx3, hx4] at HSTEP
      rw [hx1] at c0
      rw [hx2] at c1
      rw [hx3] at c2
      rw [hx4] at c3
      rw [hx5] at c4
      rw [hx6] at c5
      clear hx1 hx2 hx3 hx4 hx5 hx6 hL0 HCE hlen2
      have p0 : (0 : Int) ≤ (i : Int) := by omega
      have p1 : (i : Int) < (n : Int) := by omega
      have e5 : wrap64 ((i : Int) + 1) = ((i + 1 : Nat) : Int) := wrap_of' (by omega) (by have := HN.out; omega)
      go_upto_region 10 with (fail)
      have hb1 : Below wo.heap.size wo (wo.alloc (.cells #[.int .i64 b1, .int .u64 b2, .int .u64 b3, .bool b4, .int .u64 b5, .int .u64 b6] 86)) := by go_grown
      have b81 := Blk.new wo 86 #[.int .i64 b1, .int .u64 b2, .int .u64 b3, .bool b4, .int .u64 b5, .int .u64 b6]
      have ho : ¬ S wo.heap.size ∧ wo.heap.size ≠ r ∧ ∀ j, v.ownBlock = some j → j ≠ wo.heap.size := ⟨fun e => by have := HP.out.t.lt _ e; omega, fun e => by have := HP.out.row.head.lt; omega, fun j hj e => by have := (HP.out.row.own.lt j hj).2; omega⟩
      generalize wo.heap.size = B8 at b81 ho ⊢
      generalize wo.alloc (.cells #[.int .i64 b1, .int .u64 b2, .int .u64 b3, .bool b4, .int .u64 b5, .int .u64 b6] 86) = wz at hb1 b81 ⊢
      have HZ1 : Hid (APair w wz S U r v L0 L0) := HP.out.next hb1
      have HB81 := Lib.hid b81
      have HO := Lib.hid ho
      clear hb1 b81 ho c0 c1 c2 c3 c4 c5
      by_cases hat : (i : Int) = at1
      · have d3 : ((i : Int) == at1) = true := beq_iff_eq.2 hat
        subst hat
        clear d3
        go_wp2_with fail
        with_reducible refine (ag_copy U S L0 wz HZ1.out.t).mono ?_
        rintro e wc ⟨C, SC, rfl, h1, h2, h3⟩
        have HC0 : Hid (Aug wc SC C L0 ∧ (∀ j, SC j → wz.heap.size ≤ j) ∧ Below wz.heap.size wz wc) := ⟨h1, h2, h3⟩
        clear h1 h2 h3
        have bz := HB81.out.next HC0.out.2.2
        have x0 := bz.get 0 rfl
        have x1 := bz.get 1 rfl
        have x2 := bz.get 2 rfl
        have x3 := bz.get 3 rfl
        have x4 := bz.get 4 rfl
        have x5 := bz.get 5 rfl
        have SMC := Lib.hid (aug_same (.pointer (some ⟨C, 0, none⟩)) (fun W => Aug W SC C L0) L0 (augAsk C SC _ HLN.out.1) rfl r w.heap.size v b1 b2 b3 b4 b5 b6 wc HC0.out.1 (HZ1.out.row.next HC0.out.2.2) HLN.out.2.1 HLN.out.1)
        clear bz
        go_wp2_with fail
        with_reducible refine (SMC.out).mono ?_
        rintro e wd2 ⟨rfl, hb⟩
        have HC1 : Hid (AugNew wz wd2 C L0) := ⟨SC, HC0.out.1.next hb, HC0.out.2.1, below_next HC0.out.2.2 hb⟩
        clear hb SMC HC0 x0 x1 x2 x3 x4 x5
        have E5 := Lib.hid e5
        clear e5
        go_wp2
        go_loopg [10] (gm + 1) (fun gk ix wr => ∃ (k : Nat) (Lk : Row), k + gk = n ∧ i ≤ k ∧ ix = .int .i64 k ∧ AugNew wz wr C Lk ∧ Lk.length ≤ 150 + k)
        case atStart => exact ⟨i, L0, hi, Nat.le_refl _, rfl, HC1.out, by have := HL0.out; have := HN.out; omega⟩
        case round =>
          obtain ⟨k, Lk, hk, hik, rfl, hck, hlk⟩ := hrel
          obtain ⟨Sk, h1, h2, h3⟩ := hck
          have HCK := Lib.hid (And.intro h1 (And.intro h2 h3))
          have HLK := Lib.hid hlk
          clear h1 h2 h3 hlk
          obtain ⟨wk, rfl⟩ : ∃ x : World, x = wr := ⟨_, rfl⟩
          by_cases hkn : k < n
          · obtain ⟨gj, rfl⟩ : ∃ gj, gk = gj + 1 := ⟨gk - 1, by omega⟩
            have HCEK := Lib.hid (HA.out.cells bA off rfl k (by omega))
            obtain ⟨mm, hmm⟩ : ∃ mm, n - 1 - k = mm := ⟨_, rfl⟩
            have HCEM := Lib.hid (HA.out.cells bA off rfl mm (by omega))
            have HLOW : Hid (Below w.heap.size w wk) := HZ1.out.below.trans (HCK.out.2.2.mono HZ1.out.below.size)
            have c0 := (HLOW.out.cell (p := ⟨bA, off + k * 6, none⟩) HBA.out).trans HCEK.out.1
            have c1 := (HLOW.out.cell (p := ⟨bA, off + k * 6 + 1, none⟩) HBA.out).trans HCEK.out.2.1
            have c2 := (HLOW.out.cell (p := ⟨bA, off + k * 6 + 2, none⟩) HBA.out).trans HCEK.out.2.2.1
            have r0 : (0 : Int) ≤ (k : Int) := by omega
            have r1 : (k : Int) < (n : Int) := by omega
            have r2 : (0 : Int) ≤ (mm : Int) := by omega
            have r3 : (mm : Int) < (n : Int) := by omega
            have hlt1 : Lk.length ≤ 65535 := by have := HLK.out; have := HN.out; omega
            have q6 : (k : Int) + 1 = ((k + 1 : Nat) : Int) := by omega
            have q7 : k + 1 ≤ 1000000 := by have := HN.out; omega
            have q8 : (-1 : Int) ≤ (n : Int) - 1 := by omega
            have q9 : (n : Int) - 1 ≤ 1000000 := by have := HN.out; omega
            have q10 : (n : Int) - 1 - (k : Int) = (mm : Int) := by omega
            have q11 : mm ≤ 1000000 := by have := HN.out; omega
            have HK1 : Hid (k + 1 + gj = n ∧ i ≤ k + 1) := ⟨by omega, by omega⟩
            have PUT := Lib.hid (ag_put C Sk Lk (I k) (V k) (K k) wk.drew (HCK.out.1.next (below_of_drew (Below.refl _ _))) hlt1)
            have HQ := Lib.hid (And.intro q6 (And.intro q7 (And.intro q8 (And.intro q9 (And.intro q10 q11)))))
            clear hmm hlt1 q6 q7 q8 q9 q10 q11
            have e6 : wrap64 ((k : Int) + 1) = ((k + 1 : Nat) : Int) := wrap_of' HQ.out.1 HQ.out.2.1
            have e7 : wrap64 ((n : Int) - 1) = (n : Int) - 1 := wrap_in' HQ.out.2.2.1 HQ.out.2.2.2.1
            have e8 : wrap64 ((n : Int) - 1 - (k : Int)) = (mm : Int) := wrap_of' HQ.out.2.2.2.2.1 HQ.out.2.2.2.2.2
            go_upto_region 17 with (fail)
            go_still_tail 16, (by kernel_rfl)
            go_wp2_with fail
            with_reducible refine (PUT.out).mono ?_
            rintro e w2 ⟨rfl, ht⟩
            have hst := AugNew.step (w := wk.drew) (w0 := wz) ⟨HCK.out.2.1, below_next HCK.out.2.2 (below_of_drew (Below.refl _ _))⟩ ht
            obtain ⟨Sm, h1, h2, h3⟩ := hst
            have HCK2 := Lib.hid (And.intro h1 (And.intro h2 h3))
            clear ht PUT c0 c1 c2 h1 h2 h3
            have HLK2 : Hid ((aput (I k) (V k) (K k) Lk).length ≤ 150 + (k + 1)) := by clear e6 e7 e8; have := aput_len (I k) (V k) (K k) Lk; have := HLK.out; exact show _ ≤ _ by omega
            have HLOW2 : Hid (Below w.heap.size w w2) := HZ1.out.below.trans (HCK2.out.2.2.mono HZ1.out.below.size)
            have c0 := (HLOW2.out.cell (p := ⟨bA, off + mm * 6, none⟩) HBA.out).trans HCEM.out.1
            have DR := Lib.hid (ag_drop C Sm _ (I mm) w2 HCK2.out.1 (by clear e6 e7 e8; have := HLK2.out; have := HN.out; omega))
            obtain ⟨bq, hbq⟩ : ∃ b, agIs (I mm) (aput (I k) (V k) (K k) Lk) = b := ⟨_, rfl⟩
            rw [hbq] at DR
            clear hbq
            go_wp2_with fail
            with_reducible refine (DR.out).mono ?_
            rintro e w3 ⟨rfl, ht⟩
            have HCK3 := Lib.hid (AugNew.step (w0 := wz) HCK2.out.2 ht)
            clear ht DR c0
            have HLK3 : Hid ((dropId (I mm) (aput (I k) (V k) (K k) Lk)).length ≤ 150 + (k + 1)) := Nat.le_trans (dropId_len _ _) HLK2.out
            go_wp2
            go_roundg gj
            case rel => exact ⟨k + 1, _, HK1.out.1, HK1.out.2, by go_num, HCK3.out, HLK3.out⟩
            case measure => exact Nat.lt_succ_self _
          · obtain rfl : gk = 0 := by omega
            obtain rfl : k = n := by omega
            have HZ : Hid (APair w wk S U r v L0 L0) := HZ1.out.next HCK.out.2.2
            have HB8 : Hid (Blk wk B8 86 #[.int .i64 b1, .int .u64 b2, .int .u64 b3, .bool b4, .int .u64 b5, .int .u64 b6]) := HB81.out.next HCK.out.2.2
            clear HCK HLK hk hik
            have e5 := E5.out
            have x3 := HB8.out.get 3 rfl
            have xl := HB8.out.lt
            cases b4 with
            | true =>
              go_upto_region 20 with (fail)
              clear x3 xl
              have KQ : Hid (∀ w', Fr ((fun j => j ≠ B8)) wk w' → (w'.cell? ⟨B8, 0, none⟩ = some (.int .i64 b1)) ∧ Fr ((fun j => j ≠ B8)) wk w') := fun w' hb => ⟨((HB8.out.fr hb (fun h => h rfl)).get 0 rfl), hb⟩
              obtain ⟨er, her⟩ : ∃ x, agIs b1 L0 = x := ⟨_, rfl⟩
              have HER := Lib.hid her
              clear her
              refine wp_region_noPanic ?_
              refine wp_region_held_drew (S := fun w' => (w'.cell? ⟨B8, 0, none⟩ = some (.int .i64 b1)) ∧ Fr ((fun j => j ≠ B8)) wk w') (by kernel_rfl) (KQ.out _ (Fr.drew ((Fr.refl (fun j => j ≠ B8) wk)))) (fun hH => ?_)
              have hbR := Fr.drew ((Fr.refl (fun j => j ≠ B8) wk))
              first | (refine wpAnyH_take (i := 0) (v := undef) rfl ?_ ?_ ?_ (fun _ _ _ h => h) ?_ ?_ ?_; kernel_rfl; kernel_rfl; kernel_rfl; exact Or.inr ⟨by rfl, rfl⟩; exact hH) | (refine wpAnyH_take (i := 0) (v := ?_) rfl ?_ ?_ ?_ (fun _ _ _ h => h) ?_ ?_ ?_; rotate_left; kernel_rfl; kernel_rfl; kernel_rfl; (focus (refine Or.inl ⟨by rfl, ?_⟩; intro w' hSw; (try dsimp only at hSw); go_simp)); exact hH) | (refine wpAnyH_take (i := 0) (v := ?_) rfl ?_ ?_ ?_ (fun _ _ _ h => h) ?_ ?_ ?_; rotate_left; kernel_rfl; kernel_rfl; kernel_rfl; (focus (refine Or.inl ⟨by rfl, ?_⟩; intro w' hSw; (try dsimp only at hSw); go_simp; with_reducible rfl)); exact hH)
              try simp only [Act.put, List.getElem_toArray, List.getElem_cons_succ, List.getElem_cons_zero, List.setIfInBounds_toArray, List.set_cons_zero, List.set_cons_succ]
              first | (refine wpAnyH_take (i := 1) (v := undef) rfl ?_ ?_ ?_ (fun _ _ _ h => h) ?_ ?_ ?_; kernel_rfl; kernel_rfl; kernel_rfl; exact Or.inr ⟨by rfl, rfl⟩; exact hH) | (refine wpAnyH_take (i := 1) (v := ?_) rfl ?_ ?_ ?_ (fun _ _ _ h => h) ?_ ?_ ?_; rotate_left; kernel_rfl; kernel_rfl; kernel_rfl; (focus (refine Or.inl ⟨by rfl, ?_⟩; intro w' hSw; (try dsimp only at hSw); go_simp)); exact hH) | (refine wpAnyH_take (i := 1) (v := ?_) rfl ?_ ?_ ?_ (fun _ _ _ h => h) ?_ ?_ ?_; rotate_left; kernel_rfl; kernel_rfl; kernel_rfl; (focus (refine Or.inl ⟨by rfl, ?_⟩; intro w' hSw; (try dsimp only at hSw); go_simp; with_reducible rfl)); exact hH)
              try simp only [Act.put, List.getElem_toArray, List.getElem_cons_succ, List.getElem_cons_zero, List.setIfInBounds_toArray, List.set_cons_zero, List.set_cons_succ]
              first | (refine wpAnyH_take (i := 2) (v := undef) rfl ?_ ?_ ?_ (fun _ _ _ h => h) ?_ ?_ ?_; kernel_rfl; kernel_rfl; kernel_rfl; exact Or.inr ⟨by rfl, rfl⟩; exact hH) | (refine wpAnyH_take (i := 2) (v := ?_) rfl ?_ ?_ ?_ (fun _ _ _ h => h) ?_ ?_ ?_; rotate_left; kernel_rfl; kernel_rfl; kernel_rfl; (focus (refine Or.inl ⟨by rfl, ?_⟩; intro w' hSw; (try dsimp only at hSw); go_simp)); exact hH) | (refine wpAnyH_take (i := 2) (v := ?_) rfl ?_ ?_ ?_ (fun _ _ _ h => h) ?_ ?_ ?_; rotate_left; kernel_rfl; kernel_rfl; kernel_rfl; (focus (refine Or.inl ⟨by rfl, ?_⟩; intro w' hSw; (try dsimp only at hSw); go_simp; with_reducible rfl)); exact hH)
              try simp only [Act.put, List.getElem_toArray, List.getElem_cons_succ, List.getElem_cons_zero, List.setIfInBounds_toArray, List.set_cons_zero, List.set_cons_succ]
              first | (refine wpAnyH_take (i := 4) (v := undef) rfl ?_ ?_ ?_ (fun _ _ _ h => h) ?_ ?_ ?_; kernel_rfl; kernel_rfl; kernel_rfl; exact Or.inr ⟨by rfl, rfl⟩; exact hH) | (refine wpAnyH_take (i := 4) (v := ?_) rfl ?_ ?_ ?_ (fun _ _ _ h => h) ?_ ?_ ?_; rotate_left; kernel_rfl; kernel_rfl; kernel_rfl; (focus (refine Or.inl ⟨by rfl, ?_⟩; intro w' hSw; (try dsimp only at hSw); go_simp)); exact hH) | (refine wpAnyH_take (i := 4) (v := ?_) rfl ?_ ?_ ?_ (fun _ _ _ h => h) ?_ ?_ ?_; rotate_left; kernel_rfl; kernel_rfl; kernel_rfl; (focus (refine Or.inl ⟨by rfl, ?_⟩; intro w' hSw; (try dsimp only at hSw); go_simp; with_reducible rfl)); exact hH)
              try simp only [Act.put, List.getElem_toArray, List.getElem_cons_succ, List.getElem_cons_zero, List.setIfInBounds_toArray, List.set_cons_zero, List.set_cons_succ]
              first | (refine wpAnyH_take (i := 5) (v := undef) rfl ?_ ?_ ?_ (fun _ _ _ h => h) ?_ ?_ ?_; kernel_rfl; kernel_rfl; kernel_rfl; exact Or.inr ⟨by rfl, rfl⟩; exact hH) | (refine wpAnyH_take (i := 5) (v := ?_) rfl ?_ ?_ ?_ (fun _ _ _ h => h) ?_ ?_ ?_; rotate_left; kernel_rfl; kernel_rfl; kernel_rfl; (focus (refine Or.inl ⟨by rfl, ?_⟩; intro w' hSw; (try dsimp only at hSw); go_simp)); exact hH) | (refine wpAnyH_take (i := 5) (v := ?_) rfl ?_ ?_ ?_ (fun _ _ _ h => h) ?_ ?_ ?_; rotate_left; kernel_rfl; kernel_rfl; kernel_rfl; (focus (refine Or.inl ⟨by rfl, ?_⟩; intro w' hSw; (try dsimp only at hSw); go_simp; with_reducible rfl)); exact hH)
              try simp only [Act.put, List.getElem_toArray, List.getElem_cons_succ, List.getElem_cons_zero, List.setIfInBounds_toArray, List.set_cons_zero, List.set_cons_succ]
              first | (refine wpAnyH_take (i := 6) (v := undef) rfl ?_ ?_ ?_ (fun _ _ _ h => h) ?_ ?_ ?_; kernel_rfl; kernel_rfl; kernel_rfl; exact Or.inr ⟨by rfl, rfl⟩; exact hH) | (refine wpAnyH_take (i := 6) (v := ?_) rfl ?_ ?_ ?_ (fun _ _ _ h => h) ?_ ?_ ?_; rotate_left; kernel_rfl; kernel_rfl; kernel_rfl; (focus (refine Or.inl ⟨by rfl, ?_⟩; intro w' hSw; (try dsimp only at hSw); go_simp)); exact hH) | (refine wpAnyH_take (i := 6) (v := ?_) rfl ?_ ?_ ?_ (fun _ _ _ h => h) ?_ ?_ ?_; rotate_left; kernel_rfl; kernel_rfl; kernel_rfl; (focus (refine Or.inl ⟨by rfl, ?_⟩; intro w' hSw; (try dsimp only at hSw); go_simp; with_reducible rfl)); exact hH)
              try simp only [Act.put, List.getElem_toArray, List.getElem_cons_succ, List.getElem_cons_zero, List.setIfInBounds_toArray, List.set_cons_zero, List.set_cons_succ]
              refine wpAnyH_ready (rs := [3]) (by kernel_rfl) (by simp) ?_
              refine (AllReadyH.cons rfl (fun K hK => ?_) AllReadyH.nil)
              go_simp
              with_reducible refine (ag_drop U S L0 b1 _ (HZ.out.next (below_of_drew (Below.refl wk.heap.size wk))).t HLN.out.1).mono ?_
              rintro e w1 ⟨rfl, hk1⟩
              rw [HER.out]
              obtain ⟨S2, hp1, hf1⟩ := (HZ.out.next (below_of_drew (Below.refl wk.heap.size wk))).tree hk1
              have fr1 : Fr (fun j => j ≠ B8) wk w1 := hH.2.trans (fr_not hf1 HO.out.1)
              have HA3 := Lib.hid hp1
              clear hk1 hp1 hf1
              refine hK.out _ _ (KQ.out _ fr1) (fun hH1 => ?_)
              clear hK K hH
              have hH := hH1
              clear hH1
              try simp only [Act.put, List.getElem_toArray, List.getElem_cons_succ, List.getElem_cons_zero, List.setIfInBounds_toArray, List.set_cons_zero, List.set_cons_succ]
              refine wpAnyH_ready (rs := [7]) (by kernel_rfl) (by simp) ?_
              refine (AllReadyH.cons rfl (fun K hK => ?_) AllReadyH.nil)
              go_simp
              with_reducible refine (j_drop r w.heap.size v L0 b1 _ HA3.out.row HA3.out.below.size HLN.out.2.1 HLN.out.1).mono ?_
              rintro e w2 ⟨v2, rfl, hj2, hf2, hv2⟩
              rw [HER.out]
              have fr2 : Fr (fun j => j ≠ B8) wk w2 := hH.2.trans (fr_not hf2 (fun hx => HO.out.2.1 hx))
              have HA7 := Lib.hid (And.intro (HA3.out.rowStep hj2 (hf2.mono (fun j _ hj => Or.inl hj)) (fun j hj => (hv2 j hj).imp Or.inr id)) (HB8.out.fr fr2 (fun h => h rfl)))
              clear hj2 hf2 hv2
              refine hK.out _ _ (KQ.out _ fr2) (fun hH2 => ?_)
              clear hK K hH
              have hH := hH2
              clear hH2
              try simp only [Act.put, List.getElem_toArray, List.getElem_cons_succ, List.getElem_cons_zero, List.setIfInBounds_toArray, List.set_cons_zero, List.set_cons_succ]
              first | (refine wpAnyH_take (i := 8) (v := undef) rfl ?_ ?_ ?_ (fun _ _ _ h => h) ?_ ?_ ?_; kernel_rfl; kernel_rfl; kernel_rfl; exact Or.inr ⟨by rfl, rfl⟩; exact hH) | (refine wpAnyH_take (i := 8) (v := ?_) rfl ?_ ?_ ?_ (fun _ _ _ h => h) ?_ ?_ ?_; rotate_left; kernel_rfl; kernel_rfl; kernel_rfl; (focus (refine Or.inl ⟨by rfl, ?_⟩; intro w' hSw; (try dsimp only at hSw); go_simp)); exact hH) | (refine wpAnyH_take (i := 8) (v := ?_) rfl ?_ ?_ ?_ (fun _ _ _ h => h) ?_ ?_ ?_; rotate_left; kernel_rfl; kernel_rfl; kernel_rfl; (focus (refine Or.inl ⟨by rfl, ?_⟩; intro w' hSw; (try dsimp only at hSw); go_simp; with_reducible rfl)); exact hH)
              try simp only [Act.put, List.getElem_toArray, List.getElem_cons_succ, List.getElem_cons_zero, List.setIfInBounds_toArray, List.set_cons_zero, List.set_cons_succ]
              refine wpAnyH_done (by kernel_rfl) ?_ _
              refine NoPanic.normal ?_
              clear hH KQ
              have HP2 : Hid (APair w w2 S2 U r v2 (actsA I K V D (i + 1)) (actsA I K V D (i + 1))) := by rw [HSTEP.out]; exact HA7.out.1
              have HB2 := Lib.hid HA7.out.2
              clear HA3 HA7
              have x0 := HB2.out.get 0 rfl
              have x1 := HB2.out.get 1 rfl
              have x2 := HB2.out.get 2 rfl
              have x3 := HB2.out.get 3 rfl
              have x4 := HB2.out.get 4 rfl
              have x5 := HB2.out.get 5 rfl
              have SM := Lib.hid (aug_same (.pointer (some ⟨U, 0, none⟩)) (fun W => Aug W S2 U (actsA I K V D (i + 1))) (actsA I K V D (i + 1)) (augAsk U S2 _ AL.out) rfl r w.heap.size v2 b1 b2 b3 true b5 b6 w2 HP2.out.t HP2.out.row HP2.out.t.once AL.out)
              go_wp2_with fail
              with_reducible refine (SM.out).mono ?_
              rintro e wy ⟨rfl, hb⟩
              have HPZ := Lib.hid (HP2.out.next hb)
              clear hb SM x0 x1 x2 x3 x4 x5
              go_wp2
              go_roundg gm
              case rel => exact ⟨i + 1, S2, v2, by omega, by go_num, HPZ.out⟩
              case measure => omega
            
            | false =>
              go_upto_region 22 with (fail)
              clear x3 xl
              have x0 := HB8.out.get 0 rfl
              have x1 := HB8.out.get 1 rfl
              have x2 := HB8.out.get 2 rfl
              go_wp2_with fail
              with_reducible refine (ag_put U S L0 b1 b2 b3 wk HZ.out.t HLN.out.1).mono ?_
              rintro e w1 ⟨rfl, hk⟩
              obtain ⟨S2, hp, hf⟩ := HZ.out.tree hk
              have HA3 := Lib.hid (And.intro hp (HB8.out.fr (fr_not hf HO.out.1) (fun h => h rfl)))
              clear hk hp hf x0 x1 x2
              have x0 := HA3.out.2.get 0 rfl
              have x1 := HA3.out.2.get 1 rfl
              have x2 := HA3.out.2.get 2 rfl
              have xl := HA3.out.2.lt
              go_wp2_with fail
              with_reducible refine (j_put r w.heap.size v L0 b1 b2 b3 w1 HA3.out.1.row HA3.out.1.below.size HLN.out.2.1 HLN.out.2.2 HLN.out.1 (RowS9 r v) (fun j hj => Or.inr hj) (Or.inl rfl)).mono ?_
              rintro e w2 ⟨v2, rfl, hj, hf, hv⟩
              have HP2 : Hid (APair w w2 S2 U r v2 (actsA I K V D (i + 1)) (actsA I K V D (i + 1))) := by rw [HSTEP.out]; exact HA3.out.1.rowStep hj hf hv
              have HB2 := Lib.hid (HA3.out.2.fr hf (fun h => by rcases h with h | h; exact HO.out.2.1 h; exact HO.out.2.2 _ h rfl))
              clear hj hf hv x0 x1 x2 xl
              have x0 := HB2.out.get 0 rfl
              have x1 := HB2.out.get 1 rfl
              have x2 := HB2.out.get 2 rfl
              have x3 := HB2.out.get 3 rfl
              have x4 := HB2.out.get 4 rfl
              have x5 := HB2.out.get 5 rfl
              have SM := Lib.hid (aug_same (.pointer (some ⟨U, 0, none⟩)) (fun W => Aug W S2 U (actsA I K V D (i + 1))) (actsA I K V D (i + 1)) (augAsk U S2 _ AL.out) rfl r w.heap.size v2 b1 b2 b3 false b5 b6 w2 HP2.out.t HP2.out.row HP2.out.t.once AL.out)
              go_wp2_with fail
              with_reducible refine (SM.out).mono ?_
              rintro e wy ⟨rfl, hb⟩
              have HPZ := Lib.hid (HP2.out.next hb)
              clear hb SM x0 x1 x2 x3 x4 x5
              go_wp2
              go_roundg gm
              case rel => exact ⟨i + 1, S2, v2, by omega, by go_num, HPZ.out⟩
              case measure => omega

      · have d3 : ((i : Int) == at1) = false := beq_eq_false_iff_ne.2 hat
        have HZ := HZ1
        have HB8 := HB81
        clear hat HZ1 HB81
        have x3 := HB8.out.get 3 rfl
        have xl := HB8.out.lt
        cases b4 with
        | true =>
          go_upto_region 20 with (fail)
          clear x3 xl
          have KQ : Hid (∀ w', Fr ((fun j => j ≠ B8)) wz w' → (w'.cell? ⟨B8, 0, none⟩ = some (.int .i64 b1)) ∧ Fr ((fun j => j ≠ B8)) wz w') := fun w' hb => ⟨((HB8.out.fr hb (fun h => h rfl)).get 0 rfl), hb⟩
          obtain ⟨er, her⟩ : ∃ x, agIs b1 L0 = x := ⟨_, rfl⟩
          have HER := Lib.hid her
          clear her
          refine wp_region_noPanic ?_
          refine wp_region_held_drew (S := fun w' => (w'.cell? ⟨B8, 0, none⟩ = some (.int .i64 b1)) ∧ Fr ((fun j => j ≠ B8)) wz w') (by kernel_rfl) (KQ.out _ (Fr.drew ((Fr.refl (fun j => j ≠ B8) wz)))) (fun hH => ?_)
          have hbR := Fr.drew ((Fr.refl (fun j => j ≠ B8) wz))
          first | (refine wpAnyH_take (i := 0) (v := undef) rfl ?_ ?_ ?_ (fun _ _ _ h => h) ?_ ?_ ?_; kernel_rfl; kernel_rfl; kernel_rfl; exact Or.inr ⟨by rfl, rfl⟩; exact hH) | (refine wpAnyH_take (i := 0) (v := ?_) rfl ?_ ?_ ?_ (fun _ _ _ h => h) ?_ ?_ ?_; rotate_left; kernel_rfl; kernel_rfl; kernel_rfl; (focus (refine Or.inl ⟨by rfl, ?_⟩; intro w' hSw; (try dsimp only at hSw); go_simp)); exact hH) | (refine wpAnyH_take (i := 0) (v := ?_) rfl ?_ ?_ ?_ (fun _ _ _ h => h) ?_ ?_ ?_; rotate_left; kernel_rfl; kernel_rfl; kernel_rfl; (focus (refine Or.inl ⟨by rfl, ?_⟩; intro w' hSw; (try dsimp only at hSw); go_simp; with_reducible rfl)); exact hH)
          try simp only [Act.put, List.getElem_toArray, List.getElem_cons_succ, List.getElem_cons_zero, List.setIfInBounds_toArray, List.set_cons_zero, List.set_cons_succ]
          first | (refine wpAnyH_take (i := 1) (v := undef) rfl ?_ ?_ ?_ (fun _ _ _ h => h) ?_ ?_ ?_; kernel_rfl; kernel_rfl; kernel_rfl; exact Or.inr ⟨by rfl, rfl⟩; exact hH) | (refine wpAnyH_take (i := 1) (v := ?_) rfl ?_ ?_ ?_ (fun _ _ _ h => h) ?_ ?_ ?_; rotate_left; kernel_rfl; kernel_rfl; kernel_rfl; (focus (refine Or.inl ⟨by rfl, ?_⟩; intro w' hSw; (try dsimp only at hSw); go_simp)); exact hH) | (refine wpAnyH_take (i := 1) (v := ?_) rfl ?_ ?_ ?_ (fun _ _ _ h => h) ?_ ?_ ?_; rotate_left; kernel_rfl; kernel_rfl; kernel_rfl; (focus (refine Or.inl ⟨by rfl, ?_⟩; intro w' hSw; (try dsimp only at hSw); go_simp; with_reducible rfl)); exact hH)
          try simp only [Act.put, List.getElem_toArray, List.getElem_cons_succ, List.getElem_cons_zero, List.setIfInBounds_toArray, List.set_cons_zero, List.set_cons_succ]
          first | (refine wpAnyH_take (i := 2) (v := undef) rfl ?_ ?_ ?_ (fun _ _ _ h => h) ?_ ?_ ?_; kernel_rfl; kernel_rfl; kernel_rfl; exact Or.inr ⟨by rfl, rfl⟩; exact hH) | (refine wpAnyH_take (i := 2) (v := ?_) rfl ?_ ?_ ?_ (fun _ _ _ h => h) ?_ ?_ ?_; rotate_left; kernel_rfl; kernel_rfl; kernel_rfl; (focus (refine Or.inl ⟨by rfl, ?_⟩; intro w' hSw; (try dsimp only at hSw); go_simp)); exact hH) | (refine wpAnyH_take (i := 2) (v := ?_) rfl ?_ ?_ ?_ (fun _ _ _ h => h) ?_ ?_ ?_; rotate_left; kernel_rfl; kernel_rfl; kernel_rfl; (focus (refine Or.inl ⟨by rfl, ?_⟩; intro w' hSw; (try dsimp only at hSw); go_simp; with_reducible rfl)); exact hH)
          try simp only [Act.put, List.getElem_toArray, List.getElem_cons_succ, List.getElem_cons_zero, List.setIfInBounds_toArray, List.set_cons_zero, List.set_cons_succ]
          first | (refine wpAnyH_take (i := 4) (v := undef) rfl ?_ ?_ ?_ (fun _ _ _ h => h) ?_ ?_ ?_; kernel_rfl; kernel_rfl; kernel_rfl; exact Or.inr ⟨by rfl, rfl⟩; exact hH) | (refine wpAnyH_take (i := 4) (v := ?_) rfl ?_ ?_ ?_ (fun _ _ _ h => h) ?_ ?_ ?_; rotate_left; kernel_rfl; kernel_rfl; kernel_rfl; (focus (refine Or.inl ⟨by rfl, ?_⟩; intro w' hSw; (try dsimp only at hSw); go_simp)); exact hH) | (refine wpAnyH_take (i := 4) (v := ?_) rfl ?_ ?_ ?_ (fun _ _ _ h => h) ?_ ?_ ?_; rotate_left; kernel_rfl; kernel_rfl; kernel_rfl; (focus (refine Or.inl ⟨by rfl, ?_⟩; intro w' hSw; (try dsimp only at hSw); go_simp; with_reducible rfl)); exact hH)
          try simp only [Act.put, List.getElem_toArray, List.getElem_cons_succ, List.getElem_cons_zero, List.setIfInBounds_toArray, List.set_cons_zero, List.set_cons_succ]
          first | (refine wpAnyH_take (i := 5) (v := undef) rfl ?_ ?_ ?_ (fun _ _ _ h => h) ?_ ?_ ?_; kernel_rfl; kernel_rfl; kernel_rfl; exact Or.inr ⟨by rfl, rfl⟩; exact hH) | (refine wpAnyH_take (i := 5) (v := ?_) rfl ?_ ?_ ?_ (fun _ _ _ h => h) ?_ ?_ ?_; rotate_left; kernel_rfl; kernel_rfl; kernel_rfl; (focus (refine Or.inl ⟨by rfl, ?_⟩; intro w' hSw; (try dsimp only at hSw); go_simp)); exact hH) | (refine wpAnyH_take (i := 5) (v := ?_) rfl ?_ ?_ ?_ (fun _ _ _ h => h) ?_ ?_ ?_; rotate_left; kernel_rfl; kernel_rfl; kernel_rfl; (focus (refine Or.inl ⟨by rfl, ?_⟩; intro w' hSw; (try dsimp only at hSw); go_simp; with_reducible rfl)); exact hH)
          try simp only [Act.put, List.getElem_toArray, List.getElem_cons_succ, List.getElem_cons_zero, List.setIfInBounds_toArray, List.set_cons_zero, List.set_cons_succ]
          first | (refine wpAnyH_take (i := 6) (v := undef) rfl ?_ ?_ ?_ (fun _ _ _ h => h) ?_ ?_ ?_; kernel_rfl; kernel_rfl; kernel_rfl; exact Or.inr ⟨by rfl, rfl⟩; exact hH) | (refine wpAnyH_take (i := 6) (v := ?_) rfl ?_ ?_ ?_ (fun _ _ _ h => h) ?_ ?_ ?_; rotate_left; kernel_rfl; kernel_rfl; kernel_rfl; (focus (refine Or.inl ⟨by rfl, ?_⟩; intro w' hSw; (try dsimp only at hSw); go_simp)); exact hH) | (refine wpAnyH_take (i := 6) (v := ?_) rfl ?_ ?_ ?_ (fun _ _ _ h => h) ?_ ?_ ?_; rotate_left; kernel_rfl; kernel_rfl; kernel_rfl; (focus (refine Or.inl ⟨by rfl, ?_⟩; intro w' hSw; (try dsimp only at hSw); go_simp; with_reducible rfl)); exact hH)
          try simp only [Act.put, List.getElem_toArray, List.getElem_cons_succ, List.getElem_cons_zero, List.setIfInBounds_toArray, List.set_cons_zero, List.set_cons_succ]
          refine wpAnyH_ready (rs := [3]) (by kernel_rfl) (by simp) ?_
          refine (AllReadyH.cons rfl (fun K hK => ?_) AllReadyH.nil)
          go_simp
          with_reducible refine (ag_drop U S L0 b1 _ (HZ.out.next (below_of_drew (Below.refl wz.heap.size wz))).t HLN.out.1).mono ?_
          rintro e w1 ⟨rfl, hk1⟩
          rw [HER.out]
          obtain ⟨S2, hp1, hf1⟩ := (HZ.out.next (below_of_drew (Below.refl wz.heap.size wz))).tree hk1
          have fr1 : Fr (fun j => j ≠ B8) wz w1 := hH.2.trans (fr_not hf1 HO.out.1)
          have HA3 := Lib.hid hp1
          clear hk1 hp1 hf1
          refine hK.out _ _ (KQ.out _ fr1) (fun hH1 => ?_)
          clear hK K hH
          have hH := hH1
          clear hH1
          try simp only [Act.put, List.getElem_toArray, List.getElem_cons_succ, List.getElem_cons_zero, List.setIfInBounds_toArray, List.set_cons_zero, List.set_cons_succ]
          refine wpAnyH_ready (rs := [7]) (by kernel_rfl) (by simp) ?_
          refine (AllReadyH.cons rfl (fun K hK => ?_) AllReadyH.nil)
          go_simp
          with_reducible refine (j_drop r w.heap.size v L0 b1 _ HA3.out.row HA3.out.below.size HLN.out.2.1 HLN.out.1).mono ?_
          rintro e w2 ⟨v2, rfl, hj2, hf2, hv2⟩
          rw [HER.out]
          have fr2 : Fr (fun j => j ≠ B8) wz w2 := hH.2.trans (fr_not hf2 (fun hx => HO.out.2.1 hx))
          have HA7 := Lib.hid (And.intro (HA3.out.rowStep hj2 (hf2.mono (fun j _ hj => Or.inl hj)) (fun j hj => (hv2 j hj).imp Or.inr id)) (HB8.out.fr fr2 (fun h => h rfl)))
          clear hj2 hf2 hv2
          refine hK.out _ _ (KQ.out _ fr2) (fun hH2 => ?_)
          clear hK K hH
          have hH := hH2
          clear hH2
          try simp only [Act.put, List.getElem_toArray, List.getElem_cons_succ, List.getElem_cons_zero, List.setIfInBounds_toArray, List.set_cons_zero, List.set_cons_succ]
          first | (refine wpAnyH_take (i := 8) (v := undef) rfl ?_ ?_ ?_ (fun _ _ _ h => h) ?_ ?_ ?_; kernel_rfl; kernel_rfl; kernel_rfl; exact Or.inr ⟨by rfl, rfl⟩; exact hH) | (refine wpAnyH_take (i := 8) (v := ?_) rfl ?_ ?_ ?_ (fun _ _ _ h => h) ?_ ?_ ?_; rotate_left; kernel_rfl; kernel_rfl; kernel_rfl; (focus (refine Or.inl ⟨by rfl, ?_⟩; intro w' hSw; (try dsimp only at hSw); go_simp)); exact hH) | (refine wpAnyH_take (i := 8) (v := ?_) rfl ?_ ?_ ?_ (fun _ _ _ h => h) ?_ ?_ ?_; rotate_left; kernel_rfl; kernel_rfl; kernel_rfl; (focus (refine Or.inl ⟨by rfl, ?_⟩; intro w' hSw; (try dsimp only at hSw); go_simp; with_reducible rfl)); exact hH)
          try simp only [Act.put, List.getElem_toArray, List.getElem_cons_succ, List.getElem_cons_zero, List.setIfInBounds_toArray, List.set_cons_zero, List.set_cons_succ]
          refine wpAnyH_done (by kernel_rfl) ?_ _
          refine NoPanic.normal ?_
          clear hH KQ
          have HP2 : Hid (APair w w2 S2 U r v2 (actsA I K V D (i + 1)) (actsA I K V D (i + 1))) := by rw [HSTEP.out]; exact HA7.out.1
          have HB2 := Lib.hid HA7.out.2
          clear HA3 HA7
          have x0 := HB2.out.get 0 rfl
          have x1 := HB2.out.get 1 rfl
          have x2 := HB2.out.get 2 rfl
          have x3 := HB2.out.get 3 rfl
          have x4 := HB2.out.get 4 rfl
          have x5 := HB2.out.get 5 rfl
          have SM := Lib.hid (aug_same (.pointer (some ⟨U, 0, none⟩)) (fun W => Aug W S2 U (actsA I K V D (i + 1))) (actsA I K V D (i + 1)) (augAsk U S2 _ AL.out) rfl r w.heap.size v2 b1 b2 b3 true b5 b6 w2 HP2.out.t HP2.out.row HP2.out.t.once AL.out)
          go_wp2_with fail
          with_reducible refine (SM.out).mono ?_
          rintro e wy ⟨rfl, hb⟩
          have HPZ := Lib.hid (HP2.out.next hb)
          clear hb SM x0 x1 x2 x3 x4 x5
          go_wp2
          go_roundg gm
          case rel => exact ⟨i + 1, S2, v2, by omega, by go_num, HPZ.out⟩
          case measure => omega
        
        | false =>
          go_upto_region 22 with (fail)
          clear x3 xl
          have x0 := HB8.out.get 0 rfl
          have x1 := HB8.out.get 1 rfl
          have x2 := HB8.out.get 2 rfl
          go_wp2_with fail
          with_reducible refine (ag_put U S L0 b1 b2 b3 wz HZ.out.t HLN.out.1).mono ?_
          rintro e w1 ⟨rfl, hk⟩
          obtain ⟨S2, hp, hf⟩ := HZ.out.tree hk
          have HA3 := Lib.hid (And.intro hp (HB8.out.fr (fr_not hf HO.out.1) (fun h => h rfl)))
          clear hk hp hf x0 x1 x2
          have x0 := HA3.out.2.get 0 rfl
          have x1 := HA3.out.2.get 1 rfl
          have x2 := HA3.out.2.get 2 rfl
          have xl := HA3.out.2.lt
          go_wp2_with fail
          with_reducible refine (j_put r w.heap.size v L0 b1 b2 b3 w1 HA3.out.1.row HA3.out.1.below.size HLN.out.2.1 HLN.out.2.2 HLN.out.1 (RowS9 r v) (fun j hj => Or.inr hj) (Or.inl rfl)).mono ?_
          rintro e w2 ⟨v2, rfl, hj, hf, hv⟩
          have HP2 : Hid (APair w w2 S2 U r v2 (actsA I K V D (i + 1)) (actsA I K V D (i + 1))) := by rw [HSTEP.out]; exact HA3.out.1.rowStep hj hf hv
          have HB2 := Lib.hid (HA3.out.2.fr hf (fun h => by rcases h with h | h; exact HO.out.2.1 h; exact HO.out.2.2 _ h rfl))
          clear hj hf hv x0 x1 x2 xl
          have x0 := HB2.out.get 0 rfl
          have x1 := HB2.out.get 1 rfl
          have x2 := HB2.out.get 2 rfl
          have x3 := HB2.out.get 3 rfl
          have x4 := HB2.out.get 4 rfl
          have x5 := HB2.out.get 5 rfl
          have SM := Lib.hid (aug_same (.pointer (some ⟨U, 0, none⟩)) (fun W => Aug W S2 U (actsA I K V D (i + 1))) (actsA I K V D (i + 1)) (augAsk U S2 _ AL.out) rfl r w.heap.size v2 b1 b2 b3 false b5 b6 w2 HP2.out.t HP2.out.row HP2.out.t.once AL.out)
          go_wp2_with fail
          with_reducible refine (SM.out).mono ?_
          rintro e wy ⟨rfl, hb⟩
          have HPZ := Lib.hid (HP2.out.next hb)
          clear hb SM x0 x1 x2 x3 x4 x5
          go_wp2
          go_roundg gm
          case rel => exact ⟨i + 1, S2, v2, by omega, by go_num, HPZ.out⟩
          case measure => omega

    · obtain rfl : go = 0 := by omega
      obtain rfl : i = n := by omega
      go_wp2
      go_ret
      exact ⟨rfl, HP.out.below⟩

end Go.Proofs.Ytjlnbpomncglcaa

