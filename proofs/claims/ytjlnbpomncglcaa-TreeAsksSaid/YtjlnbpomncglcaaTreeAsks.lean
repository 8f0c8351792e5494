/-
  TreeAsks holds.
-/
import Derived.Test.YtjlnbpomncglcaaProg
import Derived.Test.YtjlnbpomncglcaaRBPair
namespace Go.Proofs.Ytjlnbpomncglcaa
set_option linter.unusedVariables false
set_option linter.unusedSimpArgs false
set_option maxRecDepth 100000
open Go.RowKit Go.Shelf

theorem sum_some (L : Row) : (sumFrom ofV minV none L).isSome = !L.isEmpty := by
  cases L with
  | nil => rfl
  | cons p L =>
    have h : ∀ (L : Row) (s : Int), (sumFrom ofV minV (some s) L).isSome = true := by
      intro L
      induction L with
      | nil => intro s; rfl
      | cons p L ih => intro s; exact ih _
    exact h L _
theorem mem_actR {d : Bool} {k : RK} {v : Int} {L : Row} {p : RK × Int} (h : p ∈ actR d k v L) : p ∈ L ∨ p.1 = k := by
  unfold actR at h
  split at h
  · exact Or.inl (List.mem_filter.1 h).1
  · rcases mem_rput.1 h with h | h
    · exact Or.inl h
    · exact Or.inr (by rw [h.2])
theorem upto_most {n : Nat} {N I V : Nat → Int} {D : Nat → Bool} (h : ∀ i, i < n → N i ≤ 18446744073709551615) : ∀ i, i ≤ n → uptoU 18446744073709551615 (actsRow N I V D i) = sumFrom ofV minV none (actsRow N I V D i) := by
  have hm : ∀ i, i ≤ n → ∀ p ∈ actsRow N I V D i, p.1.1 ≤ 18446744073709551615 := by
    intro i
    induction i with
    | zero => intro _ p hp; cases hp
    | succ i ih =>
      intro hi p hp
      rcases mem_actR hp with hp | hp
      · exact ih (by omega) p hp
      · rw [hp]; exact h i (by omega)
  intro i hi
  unfold uptoU
  rw [upTo_all (hm i hi)]
set_option maxHeartbeats 16000000 in
theorem treeAsks_walk (w : World) (A : Option Addr) (n c : Nat) (N : Nat → Int) (fN : ∀ i, i < n → (Lit.int .u64 (N i)).wf = true) (I : Nat → Int) (fI : ∀ i, i < n → (Lit.int .i64 (I i)).wf = true) (V : Nat → Int) (fV : ∀ i, i < n → (Lit.int .u64 (V i)).wf = true) (D : Nat → Bool) (hl : n ≤ c) (hm : c ≤ maxLen)
    (hA : 0 < n → ∃ b off, A = some ⟨b, off, none⟩ ∧ b < w.heap.size) (hN : ∀ b off, A = some ⟨b, off, none⟩ → ∀ i, i < n → w.cell? ⟨b, off + (i * 4 + 0), none⟩ = some (.int .u64 (N i))) (hI : ∀ b off, A = some ⟨b, off, none⟩ → ∀ i, i < n → w.cell? ⟨b, off + (i * 4 + 1), none⟩ = some (.int .i64 (I i)))
    (hV : ∀ b off, A = some ⟨b, off, none⟩ → ∀ i, i < n → w.cell? ⟨b, off + (i * 4 + 2), none⟩ = some (.int .u64 (V i))) (hD : ∀ b off, A = some ⟨b, off, none⟩ → ∀ i, i < n → w.cell? ⟨b, off + (i * 4 + 3), none⟩ = some (.bool (D i))) (a1 : Int) (fa1 : (Lit.int .u64 a1).wf = true) (a2 : Int) (fa2 : (Lit.int .u64 a2).wf = true) :
    Calls Try.prog 3 #[.slice A n c, .int .u64 a1, .int .u64 a2] w fun e w' => e = .returned (.bool true) ∧ Below w.heap.size w w' := by
  have HMX : Hid (∀ i, i < n → N i ≤ 18446744073709551615) := fun i hi => by have := fN i hi; have e : IntKind.u64.max = 18446744073709551615 := rfl; simp [Lit.wf] at this; omega
  have HA := Lib.hid (racts_of hA hN hI hV hD)
  clear hA hN hI hV hD fN fI fV hl hm fa1 fa2
  by_cases hn : 120 < n
  · have d2 : decide (120 < n) = true := decide_eq_true hn
    have d1 : decide ((120 : Int) < (n : Int)) = true := decide_eq_true (by omega)
    clear hn
    go_enter Try.func3, Try.ntmps3
    go_wp2
    go_ret
    exact ⟨rfl, Below.refl _ _⟩
  have d2 : decide (120 < n) = false := decide_eq_false hn
  have d1 : decide ((120 : Int) < (n : Int)) = false := decide_eq_false (by omega)
  have HN := Lib.hid (show n ≤ 120 by omega)
  clear hn
  go_enter Try.func3, Try.ntmps3
  go_wp2_with fail
  with_reducible refine (ru_numbers w).mono ?_
  rintro e wa ⟨T, rfl, g1, g2, g3⟩
  have HT1 : Hid (TrAt w wa T .nil) := ⟨g1, g2, (fun x hx => by cases hx), g3⟩
  clear g1 g2 g3
  go_upto_region 4 with (fail)
  have hbd : Below wa.heap.size wa (wa.alloc (.cells #[.slice none 0 0] 29)) := by go_grown
  have b8 := Blk.new wa 29 #[.slice none 0 0]
  have hpr : Pair w (wa.alloc (.cells #[.slice none 0 0] 29)) T .nil wa.heap.size (.slice none 0 0) [] := ⟨HT1.out.next hbd, ⟨b8, World.ownsRow_nil _ _ _ _⟩, HT1.out.below.size, ⟨fun e => by have := HT1.out.is.blk.lt; omega, fun hx => by cases hx⟩, fun j hj => by cases hj⟩
  clear hbd b8
  generalize wa.heap.size = r at hpr ⊢
  generalize wa.alloc (.cells #[.slice none 0 0] 29) = wd at hpr ⊢
  have HPR0 := Lib.hid hpr
  clear hpr
  go_wp2
  go_loopg [9] n (fun gk ix wr => ∃ (i : Nat) (t : RB Int) (v : Value), i + gk = n ∧ ix = .int .i64 i ∧ Pair w wr T t r v (actsRow N I V D i) ∧ t.items = actsRow N I V D i)
  case atStart => exact ⟨0, .nil, _, by omega, rfl, HPR0.out, rfl⟩
  case round =>
    obtain ⟨i, t, v, hi, rfl, hp, hi1⟩ := hrel
    have HP := Lib.hid (And.intro hp hi1)
    clear hp hi1
    obtain ⟨wo, rfl⟩ : ∃ x : World, x = wr := ⟨_, rfl⟩
    by_cases hlt : i < n
    · obtain ⟨gm, rfl⟩ : ∃ gm, gk = gm + 1 := ⟨gk - 1, by omega⟩
      obtain ⟨bA, off, rfl, hbA⟩ := HA.out.addr (by omega)
      have HBA := Lib.hid hbA
      have HCE := Lib.hid (HA.out.cells bA off rfl i hlt)
      have c0 := ((HP.out.1.a.below).cell (p := ⟨bA, off + i * 4, none⟩) HBA.out).trans HCE.out.1
      have c1 := ((HP.out.1.a.below).cell (p := ⟨bA, off + i * 4 + 1, none⟩) HBA.out).trans HCE.out.2.1
      have c2 := ((HP.out.1.a.below).cell (p := ⟨bA, off + i * 4 + 2, none⟩) HBA.out).trans HCE.out.2.2.1
      have c3 := ((HP.out.1.a.below).cell (p := ⟨bA, off + i * 4 + 3, none⟩) HBA.out).trans HCE.out.2.2.2

      have hlen : t.items.length ≤ 1000000 := by rw [HP.out.2]; have := actsRow_len N I V D i; have := HN.out; omega
      have hlen2 : (actsRow N I V D i).length ≤ 65535 := by have := actsRow_len N I V D i; have := HN.out; omega
      have HLN := Lib.hid (And.intro hlen hlen2)
      have HSTEP := Lib.hid (show actsRow N I V D (i + 1) = actR (D i) (N i, I i) (V i) (actsRow N I V D i) from rfl)
      have HRI := Lib.hid (acts_rises N I V D i)
      obtain ⟨L0, hL0⟩ : ∃ x, actsRow N I V D i = x := ⟨_, rfl⟩
      rw [hL0] at HP HSTEP HRI HLN hlen2
      obtain ⟨x1, hx1⟩ : ∃ x, N i = x := ⟨_, rfl⟩
      obtain ⟨x2, hx2⟩ : ∃ x, I i = x := ⟨_, rfl⟩
      obtain ⟨x3, hx3⟩ : ∃ x, V i = x := ⟨_, rfl⟩
      obtain ⟨x4, hx4⟩ : ∃ x, D i = x := ⟨_, rfl⟩
      rw [hx1, hx2, hx3, hx4] at HSTEP HCE
      rw [hx1] at c0
      rw [hx2] at c1
      rw [hx3] at c2
      rw [hx4] at c3
      clear hx1 hx2 hx3 hx4 hL0
      have p0 : (0 : Int) ≤ (i : Int) := by omega
      have p1 : (i : Int) < (n : Int) := by omega
      have e5 : wrap64 ((i : Int) + 1) = ((i + 1 : Nat) : Int) := by have := HN.out; unfold wrap64; omega
      have PUT := Lib.hid (ru_putAny T t (x1, x2) x3 wo.drew (HP.out.1.next (below_of_drew (Below.refl _ _))).a.is hlen)
      have DROP := Lib.hid (ru_dropAny T t (x1, x2) wo HP.out.1.a.is hlen)
      clear hlen hlen2
      cases x4 with
      | true =>
        go_wp2_with fail
        with_reducible refine (DROP.out).mono ?_
        rintro e w1 ⟨rfl, t2, ht', hi'⟩
        have HP1 := Lib.hid (And.intro (HP.out.1.tree ht') (hi'.trans (by rw [HP.out.2])))
        clear ht' hi' PUT DROP c0 c1 c2 c3
        have c0 := ((HP1.out.1.a.below).cell (p := ⟨bA, off + i * 4, none⟩) HBA.out).trans HCE.out.1
        have c1 := ((HP1.out.1.a.below).cell (p := ⟨bA, off + i * 4 + 1, none⟩) HBA.out).trans HCE.out.2.1
        have RD := Lib.hid (pair_drop HP1.out.1 HRI.out HLN.out.2 (x1, x2))
        go_wp2_with fail
        with_reducible refine (RD.out).mono ?_
        rintro e w2 ⟨rfl, v2, hp2, -⟩
        have HP2 : Hid (Pair w w2 T t2 r v2 (actsRow N I V D (i + 1)) ∧ t2.items = actsRow N I V D (i + 1)) := by rw [HSTEP.out]; exact ⟨hp2, HP1.out.2⟩
        clear hp2 RD c0 c1
        have AN := Lib.hid (acts_rises N I V D (i + 1))
        have AL : Hid ((actsRow N I V D (i + 1)).length ≤ 65535) := show _ ≤ _ by have := actsRow_len N I V D (i + 1); have := HN.out; omega
        have AM : Hid (uptoU 18446744073709551615 (actsRow N I V D (i + 1)) = sumFrom ofV minV none (actsRow N I V D (i + 1))) := upto_most HMX.out (i + 1) (by omega)
        have ASM : Hid ((sumFrom ofV minV none (actsRow N I V D (i + 1))).isSome = !(actsRow N I V D (i + 1)).isEmpty) := sum_some _
        obtain ⟨L, hL⟩ : ∃ x, actsRow N I V D (i + 1) = x := ⟨_, rfl⟩
        rw [hL] at HP2 AN AL AM ASM
        have HAR := Lib.hid hL
        clear hL
        have hall : allU t2 = (sumFrom ofV minV none L).getD 0 := by
          obtain ⟨m, hw⟩ := HP2.out.1.a.is.well
          rw [allU_items hw, HP2.out.2]
        have HALL := Lib.hid hall
        have Q1 := Lib.hid (ru_upto T t2 a1 w2 HP2.out.1.a.is)
        rw [HP2.out.2] at Q1
        clear hall
        go_wp2_with fail
        with_reducible refine (Q1.out).mono ?_
        rintro e w3 ⟨rfl, hb⟩
        have HP3 := Lib.hid (HP2.out.1.next hb)
        clear hb Q1
        have Q2 := Lib.hid (k_least r w.heap.size v2 L a1 w3 HP3.out.row AL.out)
        generalize (uptoU a1 L).getD 0 = g1 at Q2 ⊢
        generalize (uptoU a1 L).isSome = b1 at Q2 ⊢
        go_wp2_with fail
        with_reducible refine (Q2.out).mono ?_
        rintro e w4 ⟨rfl, hb⟩
        have HP4 := Lib.hid (HP3.out.next hb)
        clear hb Q2
        have Q3 := Lib.hid (ru_all T t2 w4 HP4.out.a.is)
        rw [HALL.out, HP2.out.2] at Q3
        go_wp2_with fail
        with_reducible refine (Q3.out).mono ?_
        rintro e w5 ⟨rfl, hb⟩
        have HP5 := Lib.hid (HP4.out.next hb)
        clear hb Q3
        have Q4 := Lib.hid (k_least r w.heap.size v2 L 18446744073709551615 w5 HP5.out.row AL.out)
        rw [AM.out, ASM.out] at Q4
        generalize (sumFrom ofV minV none L).getD 0 = g2 at Q4 ⊢
        generalize (!L.isEmpty) = b2 at Q4 ⊢
        go_wp2_with fail
        with_reducible refine (Q4.out).mono ?_
        rintro e w6 ⟨rfl, hb⟩
        have HP6 := Lib.hid (HP5.out.next hb)
        clear hb Q4
        have Q5 := Lib.hid (ru_find T t2 a2 w6 HP6.out.a.is)
        rw [HP2.out.2] at Q5
        obtain ⟨k1, k2, b3, hfr⟩ : ∃ k1 k2 b3, FindR a2 L = .returned (.tuple #[.agg #[.int .u64 k1, .int .i64 k2], .bool b3]) := ⟨_, _, _, rfl⟩
        rw [hfr] at Q5
        have HFR := Lib.hid hfr
        clear hfr
        go_wp2_with fail
        with_reducible refine (Q5.out).mono ?_
        rintro e w7 ⟨rfl, hb⟩
        have HP7 := Lib.hid (HP6.out.next hb)
        clear hb Q5
        go_upto_region 19 with (fail)
        have hb8 : Below w7.heap.size w7 (w7.alloc (.cells #[.int .u64 k1, .int .i64 k2] 31)) := by go_grown
        have bk8 := Blk.new w7 31 #[.int .u64 k1, .int .i64 k2]
        generalize w7.heap.size = B7 at bk8 ⊢
        generalize w7.alloc (.cells #[.int .u64 k1, .int .i64 k2] 31) = w8 at hb8 bk8 ⊢
        have HP8 := Lib.hid (And.intro (HP7.out.next hb8) bk8)
        clear hb8 bk8
        have Q6 := Lib.hid (k_find r w.heap.size v2 L a2 w8 HP8.out.1.row AL.out)
        rw [HFR.out] at Q6
        go_wp2_with fail
        with_reducible refine (Q6.out).mono ?_
        rintro e w9 ⟨rfl, hb⟩
        have HP9 := Lib.hid (And.intro (HP8.out.1.next hb) (HP8.out.2.next hb))
        clear hb Q6
        have x0 := HP9.out.2.get 0 rfl
        have x1 := HP9.out.2.get 1 rfl
        have xl := HP9.out.2.lt
        go_upto_region 20 with (fail)
        have hb10 : Below w9.heap.size w9 (w9.alloc (.cells #[.int .u64 k1, .int .i64 k2] 31)) := by go_grown
        have bk10 := Blk.new w9 31 #[.int .u64 k1, .int .i64 k2]
        have bj10 := HP9.out.2.next hb10
        generalize w9.heap.size = B9 at bk10 ⊢
        generalize w9.alloc (.cells #[.int .u64 k1, .int .i64 k2] 31) = w10 at hb10 bk10 bj10 ⊢
        have HP10 := Lib.hid (HP9.out.1.next hb10)
        clear hb10 x0 x1 xl
        have x0 := bj10.get 0 rfl
        have x1 := bj10.get 1 rfl
        have y0 := bk10.get 0 rfl
        have y1 := bk10.get 1 rfl
        clear bj10 bk10
        go_wp2
        go_roundg gm
        case rel => exact ⟨i + 1, t2, v2, by omega, by go_num, by rw [HAR.out]; exact HP10.out, by rw [HAR.out]; exact HP2.out.2⟩
        case measure => omega

      | false =>
        go_wp2
        go_still_tail 11, (by kernel_rfl)
        go_wp2_with fail
        with_reducible refine (PUT.out).mono ?_
        rintro e w1 ⟨rfl, t2, ht', hi'⟩
        have HP1 := Lib.hid (And.intro ((HP.out.1.next (below_of_drew (Below.refl _ _))).tree ht') (hi'.trans (by rw [HP.out.2])))
        clear ht' hi' PUT DROP c0 c1 c2 c3
        have c0 := ((HP1.out.1.a.below).cell (p := ⟨bA, off + i * 4, none⟩) HBA.out).trans HCE.out.1
        have c1 := ((HP1.out.1.a.below).cell (p := ⟨bA, off + i * 4 + 1, none⟩) HBA.out).trans HCE.out.2.1
        have c2 := ((HP1.out.1.a.below).cell (p := ⟨bA, off + i * 4 + 2, none⟩) HBA.out).trans HCE.out.2.2.1
        have RD := Lib.hid (pair_put (HP1.out.1.next (below_of_drew (Below.refl _ _))) HRI.out HLN.out.2 (x1, x2) x3)
        go_wp2
        go_still_tail 11, (by kernel_rfl)
        go_wp2_with fail
        with_reducible refine (RD.out).mono ?_
        rintro e w2 ⟨rfl, v2, hp2, -⟩
        have HP2 : Hid (Pair w w2 T t2 r v2 (actsRow N I V D (i + 1)) ∧ t2.items = actsRow N I V D (i + 1)) := by rw [HSTEP.out]; exact ⟨hp2, HP1.out.2⟩
        clear hp2 RD c0 c1 c2
        have AN := Lib.hid (acts_rises N I V D (i + 1))
        have AL : Hid ((actsRow N I V D (i + 1)).length ≤ 65535) := show _ ≤ _ by have := actsRow_len N I V D (i + 1); have := HN.out; omega
        have AM : Hid (uptoU 18446744073709551615 (actsRow N I V D (i + 1)) = sumFrom ofV minV none (actsRow N I V D (i + 1))) := upto_most HMX.out (i + 1) (by omega)
        have ASM : Hid ((sumFrom ofV minV none (actsRow N I V D (i + 1))).isSome = !(actsRow N I V D (i + 1)).isEmpty) := sum_some _
        obtain ⟨L, hL⟩ : ∃ x, actsRow N I V D (i + 1) = x := ⟨_, rfl⟩
        rw [hL] at HP2 AN AL AM ASM
        have HAR := Lib.hid hL
        clear hL
        have hall : allU t2 = (sumFrom ofV minV none L).getD 0 := by
          obtain ⟨m, hw⟩ := HP2.out.1.a.is.well
          rw [allU_items hw, HP2.out.2]
        have HALL := Lib.hid hall
        have Q1 := Lib.hid (ru_upto T t2 a1 w2 HP2.out.1.a.is)
        rw [HP2.out.2] at Q1
        clear hall
        go_wp2_with fail
        with_reducible refine (Q1.out).mono ?_
        rintro e w3 ⟨rfl, hb⟩
        have HP3 := Lib.hid (HP2.out.1.next hb)
        clear hb Q1
        have Q2 := Lib.hid (k_least r w.heap.size v2 L a1 w3 HP3.out.row AL.out)
        generalize (uptoU a1 L).getD 0 = g1 at Q2 ⊢
        generalize (uptoU a1 L).isSome = b1 at Q2 ⊢
        go_wp2_with fail
        with_reducible refine (Q2.out).mono ?_
        rintro e w4 ⟨rfl, hb⟩
        have HP4 := Lib.hid (HP3.out.next hb)
        clear hb Q2
        have Q3 := Lib.hid (ru_all T t2 w4 HP4.out.a.is)
        rw [HALL.out, HP2.out.2] at Q3
        go_wp2_with fail
        with_reducible refine (Q3.out).mono ?_
        rintro e w5 ⟨rfl, hb⟩
        have HP5 := Lib.hid (HP4.out.next hb)
        clear hb Q3
        have Q4 := Lib.hid (k_least r w.heap.size v2 L 18446744073709551615 w5 HP5.out.row AL.out)
        rw [AM.out, ASM.out] at Q4
        generalize (sumFrom ofV minV none L).getD 0 = g2 at Q4 ⊢
        generalize (!L.isEmpty) = b2 at Q4 ⊢
        go_wp2_with fail
        with_reducible refine (Q4.out).mono ?_
        rintro e w6 ⟨rfl, hb⟩
        have HP6 := Lib.hid (HP5.out.next hb)
        clear hb Q4
        have Q5 := Lib.hid (ru_find T t2 a2 w6 HP6.out.a.is)
        rw [HP2.out.2] at Q5
        obtain ⟨k1, k2, b3, hfr⟩ : ∃ k1 k2 b3, FindR a2 L = .returned (.tuple #[.agg #[.int .u64 k1, .int .i64 k2], .bool b3]) := ⟨_, _, _, rfl⟩
        rw [hfr] at Q5
        have HFR := Lib.hid hfr
        clear hfr
        go_wp2_with fail
        with_reducible refine (Q5.out).mono ?_
        rintro e w7 ⟨rfl, hb⟩
        have HP7 := Lib.hid (HP6.out.next hb)
        clear hb Q5
        go_upto_region 19 with (fail)
        have hb8 : Below w7.heap.size w7 (w7.alloc (.cells #[.int .u64 k1, .int .i64 k2] 31)) := by go_grown
        have bk8 := Blk.new w7 31 #[.int .u64 k1, .int .i64 k2]
        generalize w7.heap.size = B7 at bk8 ⊢
        generalize w7.alloc (.cells #[.int .u64 k1, .int .i64 k2] 31) = w8 at hb8 bk8 ⊢
        have HP8 := Lib.hid (And.intro (HP7.out.next hb8) bk8)
        clear hb8 bk8
        have Q6 := Lib.hid (k_find r w.heap.size v2 L a2 w8 HP8.out.1.row AL.out)
        rw [HFR.out] at Q6
        go_wp2_with fail
        with_reducible refine (Q6.out).mono ?_
        rintro e w9 ⟨rfl, hb⟩
        have HP9 := Lib.hid (And.intro (HP8.out.1.next hb) (HP8.out.2.next hb))
        clear hb Q6
        have x0 := HP9.out.2.get 0 rfl
        have x1 := HP9.out.2.get 1 rfl
        have xl := HP9.out.2.lt
        go_upto_region 20 with (fail)
        have hb10 : Below w9.heap.size w9 (w9.alloc (.cells #[.int .u64 k1, .int .i64 k2] 31)) := by go_grown
        have bk10 := Blk.new w9 31 #[.int .u64 k1, .int .i64 k2]
        have bj10 := HP9.out.2.next hb10
        generalize w9.heap.size = B9 at bk10 ⊢
        generalize w9.alloc (.cells #[.int .u64 k1, .int .i64 k2] 31) = w10 at hb10 bk10 bj10 ⊢
        have HP10 := Lib.hid (HP9.out.1.next hb10)
        clear hb10 x0 x1 xl
        have x0 := bj10.get 0 rfl
        have x1 := bj10.get 1 rfl
        have y0 := bk10.get 0 rfl
        have y1 := bk10.get 1 rfl
        clear bj10 bk10
        go_wp2
        go_roundg gm
        case rel => exact ⟨i + 1, t2, v2, by omega, by go_num, by rw [HAR.out]; exact HP10.out, by rw [HAR.out]; exact HP2.out.2⟩
        case measure => omega

    · obtain rfl : gk = 0 := by omega
      obtain rfl : i = n := by omega
      go_wp2
      go_ret
      exact ⟨rfl, HP.out.1.a.below⟩

end Go.Proofs.Ytjlnbpomncglcaa

