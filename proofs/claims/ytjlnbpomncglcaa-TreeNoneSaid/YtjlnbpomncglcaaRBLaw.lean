/-
  Chapter 8's laws: what they share: trees of numbers, acts.
-/
import Derived.Test.YtjlnbpomncglcaaProg
import Derived.Test.YtjlnbpomncglcaaRBUZ
import Derived.StillTailTactics
namespace Go.Proofs.Ytjlnbpomncglcaa
set_option linter.unusedVariables false
set_option linter.unusedSimpArgs false
set_option maxRecDepth 100000
open Go.RowKit Go.Shelf

theorem ru_numbers (w : World) : Calls Try.prog 16 #[] w fun e w' => ∃ T, e = .returned (.pointer (some ⟨T, 0, none⟩)) ∧ TrIsU w' T .nil ∧ w.heap.size ≤ T ∧ Below w.heap.size w w' := by
  go_enter Try.func16, Try.ntmps16
  go_wp2_with fail
  with_reducible refine (ru_new _).mono ?_
  rintro e w1 ⟨T, rfl, h1, h2, h3⟩
  have H := Lib.hid (And.intro h1 (And.intro h2 h3))
  clear h1 h2 h3
  go_wp2
  go_ret
  exact ⟨T, by simp, H.out⟩
theorem allU_items {t : RB Int} {n : Nat} (h : RB.W ofV minV t n) : allU t = (sumFrom ofV minV none t.items).getD 0 := by
  rw [RB.W.sum minV_assoc h]
  cases t <;> rfl
/-- What an act does to a row. -/
def rput (k : RK) (v : Int) (L : Row) : Row := if get k L = none then ins k v L else L
def putE (k : RK) (L : Row) : Int := if get k L = none then 0 else 80
def delE (k : RK) (L : Row) : Int := if get k L = none then 81 else 0
def actR (d : Bool) (k : RK) (v : Int) (L : Row) : Row := if d then del k L else rput k v L
theorem del_none2 {k : RK} {L : Row} (h : get k L = none) : del k L = L := del_none (get_none.1 h)
theorem rput_none {k : RK} {v : Int} {L : Row} (h : get k L = none) : rput k v L = ins k v L := if_pos h
theorem rput_some {k : RK} {v x : Int} {L : Row} (h : get k L = some x) : rput k v L = L := if_neg (by rw [h]; simp)
theorem rput_length (k : RK) (v : Int) (L : Row) : (rput k v L).length ≤ L.length + 1 := by
  unfold rput
  split
  · rw [ins_length]; exact Nat.le_refl _
  · omega
theorem del_length_le (k : RK) (L : Row) : (del k L).length ≤ L.length := List.length_filter_le ..
theorem actR_length (d : Bool) (k : RK) (v : Int) (L : Row) : (actR d k v L).length ≤ L.length + 1 := by
  unfold actR
  split
  · have := del_length_le k L; omega
  · exact rput_length k v L
theorem rput_rises {k : RK} {v : Int} {L : Row} (h : Rises L) : Rises (rput k v L) := by
  unfold rput
  split
  · exact ins_rises h ‹_›
  · exact h
theorem actR_rises {d : Bool} {k : RK} {v : Int} {L : Row} (h : Rises L) : Rises (actR d k v L) := by
  unfold actR
  split
  · exact del_rises h
  · exact rput_rises h
theorem ru_putAny (T : Nat) (t : RB Int) (k : RK) (v : Int) (w : World) (h : TrIsU w T t) (hl : t.items.length ≤ 1000000) :
    Calls Try.prog 19 #[.pointer (some ⟨T, 0, none⟩), .agg #[.int .u64 k.1, .int .i64 k.2], .int .u64 v] w fun e w' => e = .returned (.int .i64 (putE k t.items)) ∧ ∃ t', TrToU w w' T t t' ∧ t'.items = rput k v t.items := by
  rcases hg : get k t.items with _ | x
  · refine (ru_Put T t k v w h hg hl).mono ?_
    rintro e w' ⟨t', rfl, h1, h2⟩
    exact ⟨by rw [putE, if_pos hg], t', h1, by rw [rput_none hg, h2]⟩
  · refine (ru_Put_twice T t k v x w h hg).mono ?_
    rintro e w' ⟨rfl, hb⟩
    exact ⟨by rw [putE, if_neg (by rw [hg]; simp)], t, TrToU.same h hb, by rw [rput_some hg]⟩
theorem ru_dropAny (T : Nat) (t : RB Int) (k : RK) (w : World) (h : TrIsU w T t) (hl : t.items.length ≤ 1000000) :
    Calls Try.prog 17 #[.pointer (some ⟨T, 0, none⟩), .agg #[.int .u64 k.1, .int .i64 k.2]] w fun e w' => e = .returned (.int .i64 (delE k t.items)) ∧ ∃ t', TrToU w w' T t t' ∧ t'.items = del k t.items := by
  rcases hg : get k t.items with _ | x
  · refine (ru_Drop_absent T t k w h hg).mono ?_
    rintro e w' ⟨rfl, hb⟩
    exact ⟨by rw [delE, if_pos hg], t, TrToU.same h hb, by rw [del_none2 hg]⟩
  · refine (ru_Drop T t k x w h hg hl).mono ?_
    rintro e w' ⟨t', rfl, h1, h2⟩
    exact ⟨by rw [delE, if_neg (by rw [hg]; simp)], t', h1, h2⟩

/-- A tree that was made since w0. -/
structure TrAt (w0 w : World) (T : Nat) (t : RB Int) : Prop where
  is : TrIsU w T t
  ge : w0.heap.size ≤ T
  bl : ∀ x ∈ t.blocks, w0.heap.size ≤ x
  below : Below w0.heap.size w0 w
theorem TrAt.step {w0 w w' : World} {T : Nat} {t t' : RB Int} (h : TrAt w0 w T t) (k : TrToU w w' T t t') : TrAt w0 w' T t' :=
  ⟨k.is, h.ge, fun x hx => by
    rcases k.blocks x hx with h1 | h1
    · exact h.bl x h1
    · exact Nat.le_trans h.below.size h1, h.below.trans (k.fr.below h.below.size (fun j hj hs => by
    rcases hs with rfl | hs
    · exact absurd h.ge (by omega)
    · have := h.bl j hs; omega))⟩
theorem TrAt.next {w0 w w' : World} {T : Nat} {t : RB Int} (h : TrAt w0 w T t) (hb : Below w.heap.size w w') : TrAt w0 w' T t := ⟨h.is.next hb, h.ge, h.bl, below_next h.below hb⟩
theorem TrAt.stays {w0 w w' : World} {T : Nat} {t : RB Int} {B : Nat} (h : TrAt w0 w T t) (hs : Stays B w w') (hB : w0.heap.size ≤ B) : TrAt w0 w' T t := ⟨h.is.stays hs, h.ge, h.bl, below_stays h.below hs hB⟩

/-- Acts that came in: numbers, ids, values, whether one is to be dropped. -/
structure RActs (w : World) (A : Option Addr) (n : Nat) (N I V : Nat → Int) (D : Nat → Bool) : Prop where
  addr : 0 < n → ∃ b off, A = some ⟨b, off, none⟩ ∧ b < w.heap.size
  cells : ∀ b off, A = some ⟨b, off, none⟩ → ∀ i, i < n → w.cell? ⟨b, off + i * 4, none⟩ = some (.int .u64 (N i)) ∧ w.cell? ⟨b, off + i * 4 + 1, none⟩ = some (.int .i64 (I i)) ∧ w.cell? ⟨b, off + i * 4 + 2, none⟩ = some (.int .u64 (V i)) ∧ w.cell? ⟨b, off + i * 4 + 3, none⟩ = some (.bool (D i))
theorem RActs.next {w w' : World} {A : Option Addr} {n : Nat} {N I V : Nat → Int} {D : Nat → Bool} (h : RActs w A n N I V D) (hb : Below w.heap.size w w') : RActs w' A n N I V D :=
  ⟨fun hn => by obtain ⟨b, off, e, hlt⟩ := h.addr hn; exact ⟨b, off, e, Nat.lt_of_lt_of_le hlt hb.size⟩,
   fun b off e i hi => by
    obtain ⟨a1, a2, a3, a4⟩ := h.cells b off e i hi
    have hb' : b < w.heap.size := by obtain ⟨b2, off2, e2, hlt⟩ := h.addr (by omega); rw [e] at e2; cases e2; exact hlt
    exact ⟨(hb.cell (p := ⟨b, off + i * 4, none⟩) hb').trans a1, (hb.cell (p := ⟨b, off + i * 4 + 1, none⟩) hb').trans a2, (hb.cell (p := ⟨b, off + i * 4 + 2, none⟩) hb').trans a3, (hb.cell (p := ⟨b, off + i * 4 + 3, none⟩) hb').trans a4⟩⟩
def actsRow (N I V : Nat → Int) (D : Nat → Bool) : Nat → Row
  | 0 => []
  | i + 1 => actR (D i) (N i, I i) (V i) (actsRow N I V D i)
theorem actsRow_len (N I V : Nat → Int) (D : Nat → Bool) : ∀ i, (actsRow N I V D i).length ≤ i
  | 0 => Nat.le_refl _
  | i + 1 => by
    have := actsRow_len N I V D i
    have := actR_length (D i) (N i, I i) (V i) (actsRow N I V D i)
    simp only [actsRow]
    omega
theorem acted_many (A : Option Addr) (n c : Nat) (w : World) (hn : 200 < n) :
    Calls Try.prog 32 #[.slice A n c] w fun e w' => e = .returned (.pointer none) ∧ Below w.heap.size w w' := by
  have d : decide ((200 : Int) < (n : Int)) = true := decide_eq_true (by omega)
  have d2 : decide (200 < n) = true := decide_eq_true hn
  clear hn
  go_enter Try.func32, Try.ntmps32
  go_wp2_with fail
  with_reducible refine (ru_numbers _).mono ?_
  rintro e w1 ⟨T, rfl, -, -, hb⟩
  go_wp2
  go_ret
  exact ⟨rfl, hb⟩
set_option maxHeartbeats 4000000 in
theorem acted_any (A : Option Addr) (n c : Nat) (N I V : Nat → Int) (D : Nat → Bool) (w : World) (hA : RActs w A n N I V D) (hn : n ≤ 200) :
    Calls Try.prog 32 #[.slice A n c] w fun e w' => ∃ T t, e = .returned (.pointer (some ⟨T, 0, none⟩)) ∧ TrAt w w' T t ∧ t.items = actsRow N I V D n := by
  have HA := Lib.hid hA
  have d : decide ((200 : Int) < (n : Int)) = false := decide_eq_false (by omega)
  have d2 : decide (200 < n) = false := decide_eq_false (by omega)
  have d3 : decide (n ≤ 200) = true := decide_eq_true hn
  clear hA
  go_enter Try.func32, Try.ntmps32
  go_wp2_with fail
  with_reducible refine (ru_numbers _).mono ?_
  rintro e w1 ⟨T, rfl, h1, h2, h3⟩
  have HT0 : Hid (TrAt w w1 T .nil) := ⟨h1, h2, (fun x hx => by cases hx), h3⟩
  clear h1 h2 h3
  go_wp2
  go_loopg [4] n (fun gk ix wr => ∃ (i : Nat) (t : RB Int), i + gk = n ∧ ix = .int .i64 i ∧ TrAt w wr T t ∧ t.items = actsRow N I V D i)
  case atStart => exact ⟨0, .nil, by omega, rfl, HT0.out, rfl⟩
  case round =>
    obtain ⟨i, t, hi, rfl, ht, hit⟩ := hrel
    have HT := Lib.hid (And.intro ht hit)
    clear ht hit HT0
    obtain ⟨wo, rfl⟩ : ∃ x : World, x = wr := ⟨_, rfl⟩
    by_cases hlt : i < n
    · obtain ⟨gm, rfl⟩ : ∃ gm, gk = gm + 1 := ⟨gk - 1, by omega⟩
      obtain ⟨bA, off, rfl, hbA⟩ := HA.out.addr (by omega)
      obtain ⟨c0, c1, c2, c3⟩ := HA.out.cells bA off rfl i hlt
      have c0 := (HT.out.1.below.cell (p := ⟨bA, off + i * 4, none⟩) hbA).trans c0
      have c1 := (HT.out.1.below.cell (p := ⟨bA, off + i * 4 + 1, none⟩) hbA).trans c1
      have c2 := (HT.out.1.below.cell (p := ⟨bA, off + i * 4 + 2, none⟩) hbA).trans c2
      have c3 := (HT.out.1.below.cell (p := ⟨bA, off + i * 4 + 3, none⟩) hbA).trans c3
      have hlen : t.items.length ≤ 1000000 := by rw [HT.out.2]; have := actsRow_len N I V D i; omega
      have HSTEP := Lib.hid (show actsRow N I V D (i + 1) = actR (D i) (N i, I i) (V i) (actsRow N I V D i) from rfl)
      obtain ⟨x1, hx1⟩ : ∃ x, N i = x := ⟨_, rfl⟩
      obtain ⟨x2, hx2⟩ : ∃ x, I i = x := ⟨_, rfl⟩
      obtain ⟨x3, hx3⟩ : ∃ x, V i = x := ⟨_, rfl⟩
      obtain ⟨x4, hx4⟩ : ∃ x, D i = x := ⟨_, rfl⟩
      rw [hx1, hx2, hx3, hx4] at HSTEP
      rw [hx1] at c0
      rw [hx2] at c1
      rw [hx3] at c2
      rw [hx4] at c3
      clear hx1 hx2 hx3 hx4
      have p0 : (0 : Int) ≤ (i : Int) := by omega
      have p1 : (i : Int) < (n : Int) := by omega
      have e5 : wrap64 ((i : Int) + 1) = ((i + 1 : Nat) : Int) := by unfold wrap64; omega
      have PUT := Lib.hid (ru_putAny T t (x1, x2) x3 wo.drew (HT.out.1.next (below_of_drew (Below.refl _ _))).is hlen)
      have DROP := Lib.hid (ru_dropAny T t (x1, x2) wo HT.out.1.is hlen)
      clear hlen
      cases x4 with
      | true =>
        go_wp2_with fail
        with_reducible refine (DROP.out).mono ?_
        rintro e w2 ⟨rfl, t', ht', hi'⟩
        have HP := Lib.hid (And.intro ht' hi')
        clear ht' hi' PUT DROP
        go_wp2
        go_roundg gm
        case rel => exact ⟨i + 1, t', by omega, by go_num, HT.out.1.step HP.out.1, by rw [HP.out.2, HSTEP.out, HT.out.2]; rfl⟩
        case measure => omega
      | false =>
        go_wp2
        go_still_tail 11, (by kernel_rfl)
        go_wp2_with fail
        with_reducible refine (PUT.out).mono ?_
        rintro e w2 ⟨rfl, t', ht', hi'⟩
        have HP := Lib.hid (And.intro ht' hi')
        clear ht' hi' PUT DROP
        go_wp2
        go_roundg gm
        case rel => exact ⟨i + 1, t', by omega, by go_num, (HT.out.1.next (below_of_drew (Below.refl _ _))).step HP.out.1, by rw [HP.out.2, HSTEP.out, HT.out.2]; rfl⟩
        case measure => omega
    · obtain rfl : gk = 0 := by omega
      obtain rfl : i = n := by omega
      go_wp2
      go_ret
      exact ⟨T, t, by simp, HT.out⟩

end Go.Proofs.Ytjlnbpomncglcaa
