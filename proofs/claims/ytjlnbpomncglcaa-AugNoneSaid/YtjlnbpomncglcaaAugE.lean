/-
  Chapter 9's laws: what they share: rows of ids, acts.
-/
import Derived.Test.YtjlnbpomncglcaaProg
import Derived.Test.YtjlnbpomncglcaaAugD
import Derived.StillTailTactics
namespace Go.Proofs.Ytjlnbpomncglcaa
set_option linter.unusedVariables false
set_option linter.unusedSimpArgs false
set_option maxRecDepth 100000
open Go.RowKit Go.Shelf

attribute [local go_sem] Oper.semAt_some

/-- A row of whole numbers. -/
structure IntsAt (w : World) (A : Option Addr) (n : Nat) (N : Nat → Int) : Prop where
  addr : 0 < n → ∃ g o, A = some ⟨g, o, none⟩ ∧ g < w.heap.size
  cells : ∀ g o, A = some ⟨g, o, none⟩ → ∀ i, i < n → w.cell? ⟨g, o + i, none⟩ = some (.int .i64 (N i))
theorem IntsAt.next {w w' : World} {A : Option Addr} {n : Nat} {N : Nat → Int} (h : IntsAt w A n N) (hb : Below w.heap.size w w') : IntsAt w' A n N :=
  ⟨fun hn => by obtain ⟨b, o, e, hlt⟩ := h.addr hn; exact ⟨b, o, e, Nat.lt_of_lt_of_le hlt hb.size⟩,
   fun g o e i hi => by
    have hg : g < w.heap.size := by obtain ⟨b, o2, e2, hlt⟩ := h.addr (by omega); rw [e] at e2; cases e2; exact hlt
    exact (hb.cell (p := ⟨g, o + i, none⟩) hg).trans (h.cells g o e i hi)⟩
/-- The i-th id. -/
def idAt (L : Row) (i : Nat) : Int := (L[i]?.getD ((0, 0), 0)).1.2
theorem idAt_of {L : Row} {i : Nat} {p : RK × Int} (h : L[i]? = some p) : idAt L i = p.1.2 := by unfold idAt; rw [h]; rfl
theorem ints_of_own {w : World} {B : Nat} {v : Value} {L : Row} (h : w.ownsRow B 3 1 v L.length (idCells L)) : ∃ A c, v = .slice A L.length c ∧ L.length ≤ c ∧ c ≤ maxLen ∧ IntsAt w A L.length (idAt L) := by
  obtain ⟨hl, h2⟩ := h
  rcases h2 with ⟨rfl, hz⟩ | ⟨g, cap, cur, rfl, hb, hg, h3, h4, h5, h6⟩
  · exact ⟨none, 0, by rw [hz], by omega, by decide, ⟨fun hn => by omega, fun g o e => by cases e⟩⟩
  · refine ⟨some ⟨g, 0, none⟩, cap, rfl, h3, h4, ⟨fun _ => ⟨g, 0, rfl, (Array.getElem?_eq_some_iff.1 hg).1⟩, fun g' o e i hi => ?_⟩⟩
    cases e
    obtain ⟨p, hp⟩ : ∃ p, L[i]? = some p := ⟨L[i], List.getElem?_eq_getElem hi⟩
    rw [idAt_of hp]
    have h7 : (idCells L)[i]? = some (.int .i64 p.1.2) := by unfold idCells; rw [List.getElem?_map, hp]; rfl
    rw [← h6] at h7
    rw [List.getElem?_take] at h7
    split at h7
    · simp only [World.cell?, hg, Nat.zero_add]
      simpa using h7
    · cases h7
set_option maxHeartbeats 4000000 in
theorem ints_same (A A' : Option Addr) (n c c' : Nat) (N : Nat → Int) (w : World) (h1 : IntsAt w A n N) (h2 : IntsAt w A' n N) (hn : n ≤ 65535) :
    Calls Try.prog 54 #[.slice A n c, .slice A' n c'] w fun e w' => e = .returned (.bool true) ∧ Below w.heap.size w w' := by
  have H1 := Lib.hid h1
  have H2 := Lib.hid h2
  clear h1 h2
  go_enter Try.func54, Try.ntmps54
  go_wp2
  go_loopg [5] n (fun gk ix wr => ∃ i : Nat, i + gk = n ∧ ix = .int .i64 i ∧ Below w.heap.size w wr)
  case atStart => exact ⟨0, by omega, rfl, Below.refl _ _⟩
  case round =>
    obtain ⟨i, hi, rfl, hb⟩ := hrel
    obtain ⟨wo, rfl⟩ : ∃ x : World, x = wr := ⟨_, rfl⟩
    have HB := Lib.hid hb
    clear hb
    by_cases hlt : i < n
    · obtain ⟨gm, rfl⟩ : ∃ gm, gk = gm + 1 := ⟨gk - 1, by omega⟩
      have HH1 := H1.out.next HB.out
      have HH2 := H2.out.next HB.out
      obtain ⟨g, o1, rfl, hg⟩ := HH1.addr (by omega)
      obtain ⟨g', o2, rfl, hg'⟩ := HH2.addr (by omega)
      have x0 := HH1.cells g o1 rfl i hlt
      have x1 := HH2.cells g' o2 rfl i hlt
      have p0 : (0 : Int) ≤ (i : Int) := by omega
      have p1 : (i : Int) < (n : Int) := by omega
      have e5 : wrap64 ((i : Int) + 1) = ((i + 1 : Nat) : Int) := by unfold wrap64; omega
      generalize N i = z at x0 x1
      clear HH1 HH2 hg hg'
      go_upto_region 6 with (fail)
      go_quiet (fail)
      go_wp2
      go_roundg gm
      case rel => exact ⟨i + 1, by omega, by go_num, below_next HB.out (below_drewN' (Below.refl _ _) _)⟩
      case measure => omega
    · obtain rfl : gk = 0 := by omega
      obtain rfl : i = n := by omega
      go_wp2
      go_ret
      exact ⟨rfl, HB.out⟩

/-- Acts that came in: ids, keys, values, whether one is to be dropped, what is asked. -/
structure AActs (w : World) (A : Option Addr) (n : Nat) (I K V : Nat → Int) (D : Nat → Bool) (P Q : Nat → Int) : Prop where
  addr : 0 < n → ∃ b off, A = some ⟨b, off, none⟩ ∧ b < w.heap.size
  cells : ∀ b off, A = some ⟨b, off, none⟩ → ∀ i, i < n → w.cell? ⟨b, off + i * 6, none⟩ = some (.int .i64 (I i)) ∧ w.cell? ⟨b, off + i * 6 + 1, none⟩ = some (.int .u64 (K i)) ∧ w.cell? ⟨b, off + i * 6 + 2, none⟩ = some (.int .u64 (V i)) ∧ w.cell? ⟨b, off + i * 6 + 3, none⟩ = some (.bool (D i)) ∧ w.cell? ⟨b, off + i * 6 + 4, none⟩ = some (.int .u64 (P i)) ∧ w.cell? ⟨b, off + i * 6 + 5, none⟩ = some (.int .u64 (Q i))
theorem AActs.next {w w' : World} {A : Option Addr} {n : Nat} {I K V : Nat → Int} {D : Nat → Bool} {P Q : Nat → Int} (h : AActs w A n I K V D P Q) (hb : Below w.heap.size w w') : AActs w' A n I K V D P Q :=
  ⟨fun hn => by obtain ⟨b, off, e, hlt⟩ := h.addr hn; exact ⟨b, off, e, Nat.lt_of_lt_of_le hlt hb.size⟩,
   fun b off e i hi => by
    obtain ⟨a1, a2, a3, a4, a5, a6⟩ := h.cells b off e i hi
    have hb' : b < w.heap.size := by obtain ⟨b2, off2, e2, hlt⟩ := h.addr (by omega); rw [e] at e2; cases e2; exact hlt
    exact ⟨(hb.cell (p := ⟨b, off + i * 6, none⟩) hb').trans a1, (hb.cell (p := ⟨b, off + i * 6 + 1, none⟩) hb').trans a2, (hb.cell (p := ⟨b, off + i * 6 + 2, none⟩) hb').trans a3, (hb.cell (p := ⟨b, off + i * 6 + 3, none⟩) hb').trans a4, (hb.cell (p := ⟨b, off + i * 6 + 4, none⟩) hb').trans a5, (hb.cell (p := ⟨b, off + i * 6 + 5, none⟩) hb').trans a6⟩⟩
def actA (d : Bool) (id k v : Int) (L : Row) : Row := if d then dropId id L else aput id k v L
def actsA (I K V : Nat → Int) (D : Nat → Bool) : Nat → Row
  | 0 => []
  | i + 1 => actA (D i) (I i) (K i) (V i) (actsA I K V D i)
theorem actsA_len (I K V : Nat → Int) (D : Nat → Bool) : ∀ i, (actsA I K V D i).length ≤ i
  | 0 => Nat.le_refl _
  | i + 1 => by
    have := actsA_len I K V D i
    have h1 := aput_len (I i) (K i) (V i) (actsA I K V D i)
    have h2 := dropId_len (I i) (actsA I K V D i)
    simp only [actsA, actA]
    split <;> omega
/-- A tree made since w0. -/
def AugNew (w0 w : World) (U : Nat) (L : Row) : Prop := ∃ S, Aug w S U L ∧ (∀ j, S j → w0.heap.size ≤ j) ∧ Below w0.heap.size w0 w
theorem AugNew.next {w0 w w' : World} {U : Nat} {L : Row} (h : AugNew w0 w U L) (hb : Below w.heap.size w w') : AugNew w0 w' U L := by
  obtain ⟨S, h1, h2, h3⟩ := h
  exact ⟨S, h1.next hb, h2, below_next h3 hb⟩
theorem AugNew.step {w0 w w' : World} {U : Nat} {S : Nat → Prop} {L' : Row} (h : (∀ j, S j → w0.heap.size ≤ j) ∧ Below w0.heap.size w0 w) (k : AugTo w w' S U L') : AugNew w0 w' U L' := by
  obtain ⟨S', h1, h2, h3⟩ := k
  refine ⟨S', h1, fun j hj => ?_, h.2.trans (h2.below h.2.size fun j hj hs => by have := h.1 j hs; omega)⟩
  rcases h3 j hj with e | e
  · exact h.1 j e
  · exact Nat.le_trans h.2.size e
theorem acted_many (A : Option Addr) (n c : Nat) (w : World) (hn : 200 < n) :
    Calls Try.prog 44 #[.slice A n c] w fun e w' => e = .returned (.pointer none) ∧ Below w.heap.size w w' := by
  have d : decide ((200 : Int) < (n : Int)) = true := decide_eq_true (by omega)
  have d2 : decide (200 < n) = true := decide_eq_true hn
  clear hn
  go_enter Try.func44, Try.ntmps44
  go_wp2_with fail
  with_reducible refine (ag_new _).mono ?_
  rintro e w1 ⟨U, S, rfl, -, -, hb⟩
  go_wp2
  go_ret
  exact ⟨rfl, hb⟩
set_option maxHeartbeats 4000000 in
theorem acted_any (A : Option Addr) (n c : Nat) (I K V : Nat → Int) (D : Nat → Bool) (P Q : Nat → Int) (w : World) (hA : AActs w A n I K V D P Q) (hn : n ≤ 200) :
    Calls Try.prog 44 #[.slice A n c] w fun e w' => ∃ U, e = .returned (.pointer (some ⟨U, 0, none⟩)) ∧ AugNew w w' U (actsA I K V D n) := by
  have HA := Lib.hid hA
  have d : decide ((200 : Int) < (n : Int)) = false := decide_eq_false (by omega)
  have d2 : decide (200 < n) = false := decide_eq_false (by omega)
  have d3 : decide (n ≤ 200) = true := decide_eq_true hn
  clear hA
  go_enter Try.func44, Try.ntmps44
  go_wp2_with fail
  with_reducible refine (ag_new _).mono ?_
  rintro e w1 ⟨U, S0, rfl, h1, h2, h3⟩
  have HT0 : Hid (AugNew w w1 U []) := ⟨S0, h1, h2, h3⟩
  clear h1 h2 h3
  go_wp2
  go_loopg [4] n (fun gk ix wr => ∃ (i : Nat), i + gk = n ∧ ix = .int .i64 i ∧ AugNew w wr U (actsA I K V D i))
  case atStart => exact ⟨0, by omega, rfl, HT0.out⟩
  case round =>
    obtain ⟨i, hi, rfl, ht⟩ := hrel
    obtain ⟨S, hs1, hs2, hs3⟩ := ht
    have HT := Lib.hid (And.intro hs1 (And.intro hs2 hs3))
    clear hs1 hs2 hs3 HT0
    obtain ⟨wo, rfl⟩ : ∃ x : World, x = wr := ⟨_, rfl⟩
    by_cases hlt : i < n
    · obtain ⟨gm, rfl⟩ : ∃ gm, gk = gm + 1 := ⟨gk - 1, by omega⟩
      obtain ⟨bA, off, rfl, hbA⟩ := HA.out.addr (by omega)
      obtain ⟨c0, c1, c2, c3, -, -⟩ := HA.out.cells bA off rfl i hlt
      have c0 := (HT.out.2.2.cell (p := ⟨bA, off + i * 6, none⟩) hbA).trans c0
      have c1 := (HT.out.2.2.cell (p := ⟨bA, off + i * 6 + 1, none⟩) hbA).trans c1
      have c2 := (HT.out.2.2.cell (p := ⟨bA, off + i * 6 + 2, none⟩) hbA).trans c2
      have c3 := (HT.out.2.2.cell (p := ⟨bA, off + i * 6 + 3, none⟩) hbA).trans c3
      have hlen : (actsA I K V D i).length ≤ 65535 := by have := actsA_len I K V D i; omega
      have HSTEP := Lib.hid (show actsA I K V D (i + 1) = actA (D i) (I i) (K i) (V i) (actsA I K V D i) from rfl)
      obtain ⟨x1, hx1⟩ : ∃ x, I i = x := ⟨_, rfl⟩
      obtain ⟨x2, hx2⟩ : ∃ x, K i = x := ⟨_, rfl⟩
      obtain ⟨x3, hx3⟩ : ∃ x, V i = x := ⟨_, rfl⟩
      obtain ⟨x4, hx4⟩ : ∃ x, D i = x := ⟨_, rfl⟩
      rw [hx1, hx2, hx3, hx4] at HSTEP
      rw [hx1] at c0
      rw [hx2] at c1
      rw [hx3] at c2
      rw [hx4] at c3
      clear hx1 hx2 hx3 hx4
      have p0 : (0 : Int) ≤ (i : Int) := by omega
      have p1 : (i : Int) < (n : Int) := by omega
      have PUT := Lib.hid (ag_put U S (actsA I K V D i) x1 x2 x3 wo.drew (HT.out.1.next (below_of_drew (Below.refl _ _))) hlen)
      have DROP := Lib.hid (ag_drop U S (actsA I K V D i) x1 wo HT.out.1 hlen)
      have e5 : wrap64 ((i : Int) + 1) = ((i + 1 : Nat) : Int) := by unfold wrap64; omega
      clear hlen
      cases x4 with
      | true =>
        go_wp2_with fail
        with_reducible refine (DROP.out).mono ?_
        rintro e w2 ⟨rfl, ht'⟩
        have HP := Lib.hid ht'
        clear ht' PUT DROP
        go_wp2
        go_roundg gm
        case rel => exact ⟨i + 1, by omega, by go_num, by rw [HSTEP.out]; exact AugNew.step HT.out.2 HP.out⟩
        case measure => omega
      | false =>
        go_wp2
        go_still_tail 16, (by kernel_rfl)
        go_wp2_with fail
        with_reducible refine (PUT.out).mono ?_
        rintro e w2 ⟨rfl, ht'⟩
        have HP := Lib.hid ht'
        clear ht' PUT DROP
        go_wp2
        go_roundg gm
        case rel => exact ⟨i + 1, by omega, by go_num, by rw [HSTEP.out]; exact AugNew.step (w := wo.drew) ⟨HT.out.2.1, below_next HT.out.2.2 (below_of_drew (Below.refl _ _))⟩ HP.out⟩
        case measure => omega
    · obtain rfl : gk = 0 := by omega
      obtain rfl : i = n := by omega
      go_wp2
      go_ret
      exact ⟨U, by simp, S, HT.out⟩

end Go.Proofs.Ytjlnbpomncglcaa
