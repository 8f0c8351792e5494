/-
  A table: the next one that is there; a new table; how many there are.
-/
import Derived.Test.YtddehgcdflfonaaDoorProg
import Derived.Test.YtddehgcdflfonaaDoorTabD
import Derived.Shelf.Spec.TrailingZeros
namespace Go.Proofs.YtddehgcdflfonaaDoor
set_option linter.unusedVariables false
set_option linter.unusedSimpArgs false
set_option maxRecDepth 100000
open Go.RowKit

/-- The library's table is laid. -/
def BrAt (w : World) : Prop := (∀ j, j < 64 → w.cell? ⟨0, j, none⟩ = some (.int .u8 (Lib.deBruijn64tab.getD j 0))) ∧ 0 < w.heap.size
theorem BrAt.next {w w' : World} (h : BrAt w) (hb : Below w.heap.size w w') : BrAt w' := ⟨fun j hj => (hb.cell (p := ⟨0, j, none⟩) h.2).trans (h.1 j hj), Nat.lt_of_lt_of_le h.2 hb.size⟩
theorem BrAt.fr {w w' : World} {S : Nat → Prop} (h : BrAt w) (hf : Fr S w w') (hS : ¬ S 0) : BrAt w' := ⟨fun j hj => (hf.cell (p := ⟨0, j, none⟩) h.2 hS).trans (h.1 j hj), Nat.lt_of_lt_of_le h.2 hf.size⟩

theorem tz_zero (w : World) : Calls Tryd.prog 29 #[.int .u64 0] w fun e w' => e = .returned (.int .i64 64) ∧ w = w' := by
  go_enter Tryd.func29, Tryd.ntmps29
  go_wp2
  go_ret
  exact ⟨rfl, rfl⟩
set_option maxHeartbeats 1000000 in
theorem tz_core (x k idx : Nat) (w : World) (hx0 : ((x : Int) == 0) = false)
    (key : IntKind.u64.wrap (bits BinOp.and IntKind.u64 (x : Int) (IntKind.u64.wrap (-(x : Int))) * 285870213051353865) / 288230376151711744 = (idx : Int))
    (hi : idx < 64) (hk : k < 64) (hcell : w.cell? ⟨0, idx, none⟩ = some (.int .u8 k)) :
    Calls Tryd.prog 29 #[.int .u64 x] w fun e w' => e = .returned (.int .i64 k) ∧ w = w' := by
  go_enter Tryd.func29, Tryd.ntmps29
  go_wp2_with (simp only [key])
  go_ret
  exact ⟨rfl, rfl⟩
theorem tab_tz (x : Nat) (hx0 : x ≠ 0) (hx : x < 18446744073709551616) (w : World) (hT : BrAt w) : Calls Tryd.prog 29 #[.int .u64 x] w fun e w' => e = .returned (.int .i64 (Lib.ctz 64 x)) ∧ w = w' := by
  obtain ⟨hlow, hk⟩ := Lib.lowest_bit 64 x hx0 hx
  obtain ⟨hi, htab⟩ := Lib.deBruijn64_at _ hk
  have hcell := hT.1 _ hi
  rw [htab] at hcell
  exact tz_core x _ _ w (by simp; omega) (tz64_key x _ hx hx0 hlow) hi hk hcell

theorem tab_len_refused (p : Value) (w : World) (h : Calls Tryd.prog 28 #[p] w fun e w' => e = .returned (.bool true) ∧ w = w') :
    Calls Tryd.prog 12 #[p] w fun e w' => e = .returned (.int .i64 0) ∧ w = w' := by
  have H := Lib.hid h
  clear h
  go_enter Tryd.func12, Tryd.ntmps12
  go_wp2_with fail
  with_reducible refine (H.out).mono ?_
  rintro e wx ⟨rfl, rfl⟩
  go_wp2
  go_ret
  exact ⟨rfl, rfl⟩
theorem tab_len (T N : Nat) (S : Nat → Prop) (L : TRow) (w : World) (h : TabAt w T S N L) : Calls Tryd.prog 12 #[.pointer (some ⟨T, 0, none⟩)] w fun e w' => e = .returned (.int .i64 (L.length : Int)) ∧ w = w' := by
  obtain ⟨m, n, pg, h1, -⟩ := h
  have H := Lib.hid (tab_none_made T m w (h1.head.get 0 rfl))
  have c := h1.head.get 1 rfl
  clear h1
  obtain ⟨l, hl⟩ : ∃ l, L.length = l := ⟨_, rfl⟩
  rw [hl] at c ⊢
  clear hl
  go_enter Tryd.func12, Tryd.ntmps12
  go_wp2_with fail
  with_reducible refine (H.out).mono ?_
  rintro e wx ⟨rfl, rfl⟩
  go_wp2
  go_ret
  exact ⟨by simp, rfl⟩
theorem tab_next_refused (p : Value) (id : Int) (w : World) (h : Calls Tryd.prog 28 #[p] w fun e w' => e = .returned (.bool true) ∧ w = w') :
    Calls Tryd.prog 18 #[p, .int .i64 id] w fun e w' => e = .returned (.tuple #[.int .i64 0, .bool false]) ∧ w = w' := by
  have H := Lib.hid h
  clear h
  go_enter Tryd.func18, Tryd.ntmps18
  go_wp2_with fail
  with_reducible refine (H.out).mono ?_
  rintro e wx ⟨rfl, rfl⟩
  go_wp2
  go_ret2
  exact ⟨rfl, rfl⟩

/-- A new table: it holds nothing. -/
theorem tab_new (w : World) (hG : 0 < w.heap.size) : Calls Tryd.prog 10 #[] w fun e w' => e = .returned (.pointer (some ⟨w.heap.size + 1, 0, none⟩)) ∧ TabAt w' (w.heap.size + 1) (fun k => k = w.heap.size ∨ k = w.heap.size + 1) 0 [] ∧ Below w.heap.size w w' := by
  have hmm := @run_makeMap Tryd.prog
  clear hG
  go_enter Tryd.func10, Tryd.ntmps10
  go_wp2
  go_ret
  refine ⟨by simp, ⟨w.heap.size, 0, fun _ => none, ⟨?_, ?_, fun _ _ h => (by cases h), fun _ _ _ _ h => (by cases h)⟩, Nat.le_refl _, PagesOf.new, TOk.nil, Or.inr rfl, Or.inl rfl, fun _ _ h => (by cases h), ?_⟩, ?_⟩
  · exact Blk.new_at (by simp)
  · exact (MapAt.new w).fr (S := fun _ => False) ((Fr.refl _ _).alloc _) (fun h => h)
  · intro k hk
    simp only [World.size_alloc]
    omega
  · go_grown

theorem tnext_big {L : TRow} (h : TOk L) {id : Int} (hid : 65535 ≤ id) : tnext id L = none := tnext_none.2 fun p hp => by have := (h.ids p hp).2; omega
theorem tab_next_big (T N : Nat) (S : Nat → Prop) (L : TRow) (id : Int) (w : World) (h : TabAt w T S N L) (hid : 65535 ≤ id) :
    Calls Tryd.prog 18 #[.pointer (some ⟨T, 0, none⟩), .int .i64 id] w fun e w' => e = .returned (.tuple #[.int .i64 0, .bool false]) ∧ w = w' := by
  obtain ⟨m, n, pg, h1, -⟩ := h
  have H := Lib.hid (tab_none_made T m w (h1.head.get 0 rfl))
  have d : decide ((65535 : Int) ≤ id) = true := decide_eq_true hid
  clear h1 hid
  go_enter Tryd.func18, Tryd.ntmps18
  go_wp2_with fail
  with_reducible refine (H.out).mono ?_
  rintro e wx ⟨rfl, rfl⟩
  go_wp2
  go_ret2
  exact ⟨rfl, rfl⟩

/-- What is left of a page's bits on the first page. -/
def bitsAt (has f k : Nat) : Nat := if k = f / 64 then has >>> (f % 64) <<< (f % 64) else has
theorem bitsAt_test {has f k j : Nat} (hj : j < 64) (hk : f / 64 ≤ k) : (bitsAt has f k).testBit j = (has.testBit j && decide (f ≤ k * 64 + j)) := by
  unfold bitsAt
  split
  · rename_i e
    rw [testBit_from, Bool.and_comm]
    congr 1
    rw [decide_eq_decide]
    omega
  · rename_i e
    have : f ≤ k * 64 + j := by omega
    simp [this]
theorem bitsAt_lt {has f k : Nat} (h : has < 18446744073709551616) : bitsAt has f k < 18446744073709551616 := by
  unfold bitsAt
  split
  · exact Nat.lt_of_le_of_lt from_le h
  · exact h
/-- Nothing is there from f on ahead of page k. -/
def NoneTo (L : TRow) (f k : Nat) : Prop := ∀ y : Nat, f ≤ y → y < k * 64 → tget (y : Int) L = none
theorem noneTo_step {pg : Pages} {L : TRow} {f k : Nat} (hP : PagesOf pg L) (hk : f / 64 ≤ k) (h : NoneTo L f k) (hz : ∀ p, pg k = some p → bitsAt p.has f k = 0) : NoneTo L f (k + 1) := by
  intro y h1 h2
  by_cases c : y < k * 64
  · exact h y h1 c
  · have e : y / 64 = k := by omega
    rw [hP.tells y, e]
    rcases hp : pg k with _ | p
    · rfl
    · have hb := bitsAt_test (has := p.has) (f := f) (k := k) (j := y % 64) (Nat.mod_lt _ (by omega)) hk
      rw [hz p hp, Nat.zero_testBit] at hb
      have e2 : k * 64 + y % 64 = y := by omega
      rw [e2, decide_eq_true h1, Bool.and_true] at hb
      simp only [bitOf]
      rw [← hb]
      rfl
theorem next_found {pg : Pages} {L : TRow} {f k : Nat} {p : Page} (hP : PagesOf pg L) (hL : TOk L) (hk : f / 64 ≤ k) (h : NoneTo L f k) (hp : pg k = some p) (hz : bitsAt p.has f k ≠ 0) (id : Int) (hid : ∀ y : Int, id < y → 1 ≤ y → (f : Int) ≤ y) (hf : ∀ y : Nat, f ≤ y → id < (y : Int)) :
    tnext id L = some ((k * 64 + Lib.ctz 64 (bitsAt p.has f k) : Nat) : Int) := by
  obtain ⟨c1, c2, c3⟩ := ctz_bit hz (bitsAt_lt (hP.few _ _ hp).2.1)
  obtain ⟨c, hc⟩ : ∃ c, Lib.ctz 64 (bitsAt p.has f k) = c := ⟨_, rfl⟩
  rw [hc] at c1 c2 c3 ⊢
  rw [bitsAt_test c1 hk, Bool.and_eq_true, decide_eq_true_eq] at c2
  have e1 : (k * 64 + c) / 64 = k := by omega
  have e2 : (k * 64 + c) % 64 = c := by omega
  refine tnext_some hL.rises ?_ (hf _ c2.2) ?_
  · rw [hP.tells, e1, e2, hp]
    simp only [bitOf]
    rw [c2.1]
    simp
  · intro y h1 h2
    by_cases c0 : 1 ≤ y
    · have h3 := hid y h1 c0
      obtain ⟨i, rfl⟩ : ∃ i : Nat, y = (i : Int) := ⟨y.toNat, by omega⟩
      by_cases c4 : i < k * 64
      · exact h i (by omega) c4
      · rw [hP.tells, show i / 64 = k by omega, hp]
        have hb := c3 (i % 64) (by omega)
        rw [bitsAt_test (Nat.mod_lt _ (by omega)) hk, show k * 64 + i % 64 = i by omega, decide_eq_true (by omega), Bool.and_true] at hb
        simp only [bitOf]
        rw [hb]
        rfl
    · exact hL.get_not (by omega)
theorem next_not {L : TRow} {f : Nat} (hL : TOk L) (h : NoneTo L f 1024) (id : Int) (hid : ∀ y : Int, id < y → 1 ≤ y → (f : Int) ≤ y) : tnext id L = none := by
  refine tnext_none.2 fun p hp => ?_
  apply Int.not_lt.1
  intro hlt
  have hi := hL.ids p hp
  have hg := tget_of_mem (id := p.1) (v := p.2) hL.rises hp
  obtain ⟨i, hi'⟩ : ∃ i : Nat, p.1 = (i : Int) := ⟨p.1.toNat, by omega⟩
  rw [hi'] at hg
  have := hid p.1 hlt hi.1
  rw [h i (by omega) (by omega)] at hg
  cases hg

theorem wrap_from {has s : Nat} (h : has < 18446744073709551616) : IntKind.u64.wrap ((has : Int) / 2 ^ s * 2 ^ s) = ((has >>> s <<< s : Nat) : Int) := by
  have h2 := Nat.lt_of_le_of_lt (Nat.div_mul_le_self has (2 ^ s)) h
  have e : (has : Int) / 2 ^ s * 2 ^ s = ((has / 2 ^ s * 2 ^ s : Nat) : Int) := by simp
  rw [Nat.shiftLeft_eq, Nat.shiftRight_eq_div_pow, IntKind.wrap_u64, e]
  generalize has / 2 ^ s * 2 ^ s = y at *
  omega
set_option maxHeartbeats 2000000 in
theorem tab_next_small (T m n c f : Nat) (pg : Pages) (L : TRow) (id : Int) (w : World) (h : Tab w T m n pg c) (hP : PagesOf pg L) (hL : TOk L) (hB : BrAt w) (hid : id < 65535) (h64 : -9223372036854775808 ≤ id) (hf : max id 0 + 1 = (f : Int)) :
    Calls Tryd.prog 18 #[.pointer (some ⟨T, 0, none⟩), .int .i64 id] w fun e w' => e = .returned (.tuple #[.int .i64 ((tnext id L).getD 0), .bool (tnext id L).isSome]) ∧ w = w' := by
  have H := Lib.hid (tab_none_made T m w (h.head.get 0 rfl))
  have d : decide ((65535 : Int) ≤ id) = false := decide_eq_false (by omega)
  have hf1 : 1 ≤ f := by omega
  have hf2 : f ≤ 65535 := by omega
  have HID := Lib.hid (show ∀ y : Int, id < y → 1 ≤ y → (f : Int) ≤ y by intro y; omega)
  have HFF := Lib.hid (show ∀ y : Nat, f ≤ y → id < (y : Int) by intro y; omega)
  have c0 := h.head.get 0 rfl
  have HL := Lib.hid (fun i hi => h.map.look i hi)
  have HP := Lib.hid hP
  have HOK := Lib.hid hL
  have HTAB := Lib.hid h
  have HBR := Lib.hid hB
  have HMX := Lib.hid hf
  have HRG := Lib.hid (And.intro hid h64)
  obtain ⟨q, hq⟩ : ∃ q, f / 64 = q := ⟨_, rfl⟩
  have e3 : ((f : Int)) / 64 = (q : Int) := by omega
  have hq2 : q ≤ 1023 := by omega
  have HQ := Lib.hid hq
  have N0 : Hid (NoneTo L f q) := fun y h1 h2 => by omega
  clear h hP hL hB hid h64 hf hq
  go_enter Tryd.func18, Tryd.ntmps18
  go_wp2_with fail
  with_reducible refine (H.out).mono ?_
  rintro e wx ⟨rfl, rfl⟩
  go_upto_region 3 with (fail)
  go_cut [6] (fun fv wc => fv = .int .i64 (f : Int) ∧ wc = w)
  case first =>
    have hid := HRG.out.1
    have h64 := HRG.out.2
    go_wp2
    all_goals go_meet
    all_goals (refine ⟨?_, rfl⟩; congr 1; have := HMX.out; omega)
  case rest =>
    obtain ⟨rfl, rfl⟩ := hcut
    go_wp2
    go_loopg [7] (1024 - q) (fun gk n wr => ∃ k : Nat, k + gk = 1024 ∧ q ≤ k ∧ n = .int .i64 (k : Int) ∧ NoneTo L f k ∧ wr = wc)
    case atStart => exact ⟨q, by omega, Nat.le_refl _, rfl, N0.out, rfl⟩
    case round =>
      obtain ⟨k, hk, hqk, rfl, hN, hwr⟩ := hrel
      subst hwr
      have HN := Lib.hid hN
      clear hN
      by_cases hlt : k ≤ 1023
      · obtain ⟨gm, rfl⟩ : ∃ gm, gk = gm + 1 := ⟨gk - 1, by omega⟩
        have lk := HL.out k hlt
        have dk : decide ((k : Int) ≤ 1023) = true := decide_eq_true (by omega)
        have dk2 : decide (k ≤ 1023) = true := decide_eq_true hlt
        have e5 : wrap64 ((k : Int) + 1) = ((k + 1 : Nat) : Int) := by unfold wrap64; omega
        rcases hp : pg k with _ | p
        · have HS := Lib.hid (noneTo_step HP.out (by rw [HQ.out]; exact hqk) HN.out (fun p e => by rw [hp] at e; cases e))
          rw [hp] at lk
          simp only [Option.map_none, pgPtr] at lk
          clear hp
          go_wp2
          go_roundg gm
          case rel => exact ⟨k + 1, by omega, by omega, rfl, HS.out, rfl⟩
          case measure => omega
        · have b := (HTAB.out.pages _ _ hp).get 0 (pageCells_has p.has p.vs)
          have hlt64 := (HP.out.few _ _ hp).2.1
          rw [hp] at lk
          simp only [Option.map_some, pgPtr] at lk
          have hx64 := bitsAt_lt (f := f) (k := k) hlt64
          have hkq : f / 64 ≤ k := by rw [HQ.out]; exact hqk
          have hstep : bitsAt p.has f k = 0 → NoneTo L f (k + 1) := fun hz => noneTo_step HP.out hkq HN.out (fun p' e => by rw [hp] at e; cases e; exact hz)
          have hfound : bitsAt p.has f k ≠ 0 → tnext id L = some ((k * 64 + Lib.ctz 64 (bitsAt p.has f k) : Nat) : Int) ∧ Lib.ctz 64 (bitsAt p.has f k) < 64 := fun hz => ⟨next_found HP.out HOK.out hkq HN.out hp hz id HID.out HFF.out, (ctz_bit hz hx64).1⟩
          obtain ⟨x, hx⟩ : ∃ x, bitsAt p.has f k = x := ⟨_, rfl⟩
          rw [hx] at hstep hfound hx64
          have hcalc : k = q → IntKind.u64.wrap ((p.has : Int) / 2 ^ (f % 64) * 2 ^ (f % 64)) = (x : Int) := fun e => by
            rw [← hx]; unfold bitsAt; rw [if_pos (by rw [HQ.out]; exact e)]; exact wrap_from hlt64
          have hsame : k ≠ q → x = p.has := fun e => by rw [← hx]; unfold bitsAt; rw [if_neg (by rw [HQ.out]; exact e)]
          obtain ⟨r, hr⟩ : ∃ r, f % 64 = r := ⟨_, rfl⟩
          have e6 : ((f : Int)) % 64 = (r : Int) := by omega
          have hr2 : r < 64 := by omega
          rw [hr] at hcalc
          obtain ⟨pb, has, vs⟩ := p
          dsimp only at *
          clear hx hp hr hlt64 hkq
          by_cases hz : x = 0
          · have HS := Lib.hid (hstep hz)
            clear hstep hfound
            have hz1 : ((x : Int) == 0) = true := by rw [hz]; rfl
            have hz2 : (x == 0) = true := by rw [hz]; rfl
            by_cases hkq : k = q
            · have HC := hcalc hkq
              clear hcalc hsame hz
              subst hkq
              go_wp2
              go_roundg gm
              case rel => exact ⟨k + 1, by omega, by omega, rfl, HS.out, rfl⟩
              case measure => omega
            · obtain rfl := hsame hkq
              have dq : (k == q) = false := beq_eq_false_iff_ne.2 hkq
              have dq2 : ((k : Int) == (q : Int)) = false := beq_eq_false_iff_ne.2 (by omega)
              clear hcalc hsame hz hkq
              go_wp2
              go_roundg gm
              case rel => exact ⟨k + 1, by omega, by omega, rfl, HS.out, rfl⟩
              case measure => omega
          · have HS := hfound hz
            have hz1 : ((x : Int) == 0) = false := beq_eq_false_iff_ne.2 (by omega)
            have hz2 : (x == 0) = false := beq_eq_false_iff_ne.2 hz
            have TZ := Lib.hid (tab_tz x hz hx64 wr HBR.out)
            obtain ⟨t, ht⟩ : ∃ t, Lib.ctz 64 x = t := ⟨_, rfl⟩
            rw [ht] at HS TZ
            obtain ⟨HS, ht2⟩ := HS
            have e7 : wrap64 ((k : Int) * 64 + (t : Int)) = ((k * 64 + t : Nat) : Int) := by unfold wrap64; omega
            have HSH := Lib.hid HS
            clear hstep hfound ht HS
            by_cases hkq : k = q
            · have HC := hcalc hkq
              clear hcalc hsame hz
              subst hkq
              go_wp2_with fail
              with_reducible refine (TZ.out).mono ?_
              rintro e wx ⟨rfl, rfl⟩
              go_wp2
              go_ret2
              exact ⟨by rw [HSH.out]; simp, rfl⟩
            · obtain rfl := hsame hkq
              have dq : (k == q) = false := beq_eq_false_iff_ne.2 hkq
              have dq2 : ((k : Int) == (q : Int)) = false := beq_eq_false_iff_ne.2 (by omega)
              clear hcalc hsame hz hkq
              go_wp2_with fail
              with_reducible refine (TZ.out).mono ?_
              rintro e wx ⟨rfl, rfl⟩
              go_wp2
              go_ret2
              exact ⟨by rw [HSH.out]; simp, rfl⟩
      · obtain rfl : k = 1024 := by omega
        obtain rfl : gk = 0 := by omega
        have HS := Lib.hid (next_not HOK.out HN.out id HID.out)
        clear hlt hk hqk
        go_wp2
        go_ret2
        exact ⟨by rw [HS.out]; rfl, rfl⟩

theorem tab_next (T N : Nat) (S : Nat → Prop) (L : TRow) (id : Int) (w : World) (h : TabAt w T S N L) (hB : BrAt w) (h64 : -9223372036854775808 ≤ id) :
    Calls Tryd.prog 18 #[.pointer (some ⟨T, 0, none⟩), .int .i64 id] w fun e w' => e = .returned (.tuple #[.int .i64 ((tnext id L).getD 0), .bool (tnext id L).isSome]) ∧ w = w' := by
  by_cases hid : id < 65535
  · obtain ⟨m, n, pg, h1, h2, h3, h4, -⟩ := h
    exact tab_next_small T m n _ (max id 0 + 1).toNat pg L id w h1 h3 h4 hB hid h64 (by omega)
  · rw [tnext_big h.ok (by omega)]
    exact tab_next_big T N S L id w h (by omega)

end Go.Proofs.YtddehgcdflfonaaDoor
