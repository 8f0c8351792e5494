/-
  Rows of ids and values that rise; the bits of pages. Nothing of the program stands here.
-/
import Derived.Test.YtddehgcdflfonaaDoorLib
import Derived.Lib.TrailingZeros
import Derived.Laws.BitsAllLaws
namespace Go.Proofs.YtddehgcdflfonaaDoor
set_option linter.unusedVariables false
set_option linter.unusedSimpArgs false
open Go.RowKit

abbrev TRow := List (Int × Int)
def tget (id : Int) : TRow → Option Int
  | [] => none
  | p :: L => if p.1 = id then some p.2 else tget id L
def tins (id v : Int) : TRow → TRow
  | [] => [(id, v)]
  | p :: L => if id < p.1 then (id, v) :: p :: L else p :: tins id v L
def tset (id v : Int) (L : TRow) : TRow := L.map fun p => if p.1 = id then (id, v) else p
def tdel (id : Int) (L : TRow) : TRow := L.filter fun p => !decide (p.1 = id)
def tnext (id : Int) : TRow → Option Int
  | [] => none
  | p :: L => if id < p.1 then some p.1 else tnext id L
def TRises (L : TRow) : Prop := L.Pairwise fun a b => a.1 < b.1
structure TOk (L : TRow) : Prop where
  rises : TRises L
  ids : ∀ p ∈ L, 1 ≤ p.1 ∧ p.1 ≤ 65535
  words : ∀ p ∈ L, Word p.2

theorem tget_none {id : Int} : ∀ {L : TRow}, tget id L = none ↔ ∀ p ∈ L, p.1 ≠ id
  | [] => by simp [tget]
  | p :: L => by
    simp only [tget]
    split
    · rename_i h
      simp only [reduceCtorEq, List.mem_cons, forall_eq_or_imp, false_iff, not_and]
      intro h2; exact absurd h h2
    · rename_i h
      rw [tget_none]
      simp [h]
theorem tget_mem {id v : Int} : ∀ {L : TRow}, tget id L = some v → (id, v) ∈ L
  | [], h => by simp [tget] at h
  | p :: L, h => by
    simp only [tget] at h
    split at h
    · rename_i e
      injection h with h
      subst e; subst h
      exact List.mem_cons_self ..
    · exact List.mem_cons_of_mem _ (tget_mem h)
theorem tget_of_mem {id v : Int} : ∀ {L : TRow}, TRises L → (id, v) ∈ L → tget id L = some v
  | [], _, h => by cases h
  | p :: L, hr, h => by
    have hp := List.pairwise_cons.1 hr
    simp only [tget]
    rcases List.mem_cons.1 h with rfl | h
    · rw [if_pos rfl]
    · rw [if_neg (by have := hp.1 _ h; simp only at this; omega), tget_of_mem hp.2 h]
theorem TOk.nil : TOk [] := ⟨List.Pairwise.nil, by simp, by simp⟩
theorem TOk.get_may {L : TRow} (h : TOk L) {id v : Int} (hg : tget id L = some v) : 1 ≤ id ∧ id ≤ 65535 ∧ Word v := by
  have hm := tget_mem hg
  exact ⟨(h.ids _ hm).1, (h.ids _ hm).2, h.words _ hm⟩
theorem TOk.get_not {L : TRow} (h : TOk L) {id : Int} (hn : ¬ (1 ≤ id ∧ id ≤ 65535)) : tget id L = none := by
  rcases e : tget id L with _ | v
  · rfl
  · have := h.get_may e
    exact absurd ⟨this.1, this.2.1⟩ hn

theorem mem_tins {id v : Int} {x : Int × Int} : ∀ {L : TRow}, x ∈ tins id v L ↔ x = (id, v) ∨ x ∈ L
  | [] => by simp [tins]
  | p :: L => by
    simp only [tins]
    split
    · simp
    · rw [List.mem_cons, mem_tins, List.mem_cons]
      constructor
      · rintro (h | h | h)
        · exact Or.inr (Or.inl h)
        · exact Or.inl h
        · exact Or.inr (Or.inr h)
      · rintro (h | h | h)
        · exact Or.inr (Or.inl h)
        · exact Or.inl h
        · exact Or.inr (Or.inr h)
theorem tins_length (id v : Int) : ∀ L : TRow, (tins id v L).length = L.length + 1
  | [] => rfl
  | p :: L => by
    simp only [tins]
    split
    · simp
    · simp [tins_length id v L]
theorem tset_length (id v : Int) (L : TRow) : (tset id v L).length = L.length := by simp [tset]
theorem tins_rises {id v : Int} : ∀ {L : TRow}, TRises L → tget id L = none → TRises (tins id v L)
  | [], _, _ => List.pairwise_singleton _ _
  | p :: L, h, hk => by
    have hp := List.pairwise_cons.1 h
    rw [tget_none] at hk
    simp only [tins]
    split
    · rename_i h1
      refine List.pairwise_cons.2 ⟨?_, h⟩
      intro x hx
      rcases List.mem_cons.1 hx with rfl | hx
      · exact h1
      · exact Int.lt_trans h1 (hp.1 x hx)
    · rename_i h1
      refine List.pairwise_cons.2 ⟨?_, tins_rises hp.2 (tget_none.2 fun x hx => hk x (List.mem_cons_of_mem _ hx))⟩
      intro x hx
      rcases mem_tins.1 hx with rfl | hx
      · have := hk p (List.mem_cons_self ..)
        show p.1 < id
        omega
      · exact hp.1 x hx
theorem tget_ins {id x v : Int} : ∀ {L : TRow}, tget id L = none → tget x (tins id v L) = if x = id then some v else tget x L
  | [], _ => by
    simp only [tins, tget]
    by_cases h : id = x
    · rw [if_pos h, if_pos h.symm]
    · rw [if_neg h, if_neg (Ne.symm h)]
  | p :: L, hk => by
    have hk' := tget_none.1 hk
    have hkL : tget id L = none := tget_none.2 fun y hy => hk' y (List.mem_cons_of_mem _ hy)
    simp only [tins]
    split
    · simp only [tget]
      by_cases h : id = x
      · rw [if_pos h, if_pos h.symm]
      · rw [if_neg h, if_neg (Ne.symm h)]
    · simp only [tget]
      by_cases h : p.1 = x
      · rw [if_pos h, if_pos h, if_neg]
        rintro rfl
        exact hk' p (List.mem_cons_self ..) h
      · rw [if_neg h, if_neg h, tget_ins hkL]
theorem TOk.ins {L : TRow} (h : TOk L) {id v : Int} (h1 : 1 ≤ id) (h2 : id ≤ 65535) (hv : Word v) (hn : tget id L = none) : TOk (tins id v L) :=
  ⟨tins_rises h.rises hn, fun p hp => by rcases mem_tins.1 hp with rfl | hp; exact ⟨h1, h2⟩; exact h.ids p hp, fun p hp => by rcases mem_tins.1 hp with rfl | hp; exact hv; exact h.words p hp⟩

theorem tset_rises {id v : Int} {L : TRow} (h : TRises L) : TRises (tset id v L) := by
  unfold TRises tset at *
  rw [List.pairwise_map]
  refine h.imp ?_
  intro a b hab
  split <;> split <;> simp_all
theorem tget_set {id x v : Int} : ∀ {L : TRow}, tget x (tset id v L) = if x = id then (tget x L).map (fun _ => v) else tget x L
  | [] => by simp [tset, tget]
  | p :: L => by
    have ih := tget_set (id := id) (x := x) (v := v) (L := L)
    simp only [tset, List.map_cons, tget] at ih ⊢
    by_cases h : p.1 = id
    · rw [if_pos h]
      simp only
      by_cases h2 : id = x
      · rw [if_pos h2, if_pos h2.symm, if_pos (h.trans h2)]; rfl
      · rw [if_neg h2, if_neg (Ne.symm h2), if_neg (by rw [h]; exact h2), ih, if_neg (Ne.symm h2)]
    · rw [if_neg h]
      by_cases h2 : p.1 = x
      · rw [if_pos h2, if_neg (by rw [← h2]; exact h), if_pos h2]
      · rw [if_neg h2, if_neg h2, ih]
theorem TOk.set {L : TRow} (h : TOk L) {id v : Int} (hv : Word v) : TOk (tset id v L) :=
  ⟨tset_rises h.rises, fun p hp => by
    obtain ⟨q, hq, rfl⟩ := List.mem_map.1 hp
    split
    · rename_i e; rw [← e]; exact h.ids q hq
    · exact h.ids q hq, fun p hp => by
    obtain ⟨q, hq, rfl⟩ := List.mem_map.1 hp
    split
    · exact hv
    · exact h.words q hq⟩

theorem tget_del {id x : Int} : ∀ {L : TRow}, tget x (tdel id L) = if x = id then none else tget x L
  | [] => by simp [tdel, tget]
  | p :: L => by
    have ih := tget_del (id := id) (x := x) (L := L)
    by_cases h : p.1 = id
    · have e : tdel id (p :: L) = tdel id L := by simp [tdel, h]
      rw [e, ih]
      by_cases h2 : x = id
      · rw [if_pos h2, if_pos h2]
      · rw [if_neg h2, if_neg h2]
        simp only [tget]
        rw [if_neg (by rw [h]; exact Ne.symm h2)]
    · have e : tdel id (p :: L) = p :: tdel id L := by simp [tdel, h]
      rw [e]
      simp only [tget, ih]
      by_cases h2 : p.1 = x
      · rw [if_pos h2, if_pos h2, if_neg (by rw [← h2]; exact h)]
      · rw [if_neg h2, if_neg h2]
theorem TOk.del {L : TRow} (h : TOk L) (id : Int) : TOk (tdel id L) :=
  ⟨h.rises.filter _, fun p hp => h.ids p (List.mem_filter.1 hp).1, fun p hp => h.words p (List.mem_filter.1 hp).1⟩
theorem tdel_none {id : Int} {L : TRow} (h : tget id L = none) : tdel id L = L := by
  unfold tdel
  rw [List.filter_eq_self]
  intro p hp
  simp [tget_none.1 h p hp]
theorem tdel_length {id v : Int} : ∀ {L : TRow}, TRises L → tget id L = some v → (tdel id L).length + 1 = L.length
  | [], _, h => by simp [tget] at h
  | p :: L, hr, h => by
    have hp := List.pairwise_cons.1 hr
    simp only [tget] at h
    split at h
    · rename_i e
      have e1 : tdel id (p :: L) = tdel id L := by simp [tdel, e]
      rw [e1, tdel_none (tget_none.2 fun q hq => by have := hp.1 q hq; omega)]
      rfl
    · rename_i e
      have e1 : tdel id (p :: L) = p :: tdel id L := by simp [tdel, e]
      rw [e1, List.length_cons, tdel_length hp.2 h, List.length_cons]
theorem tdel_ins {id v : Int} : ∀ {L : TRow}, tget id L = none → tdel id (tins id v L) = L
  | [], _ => by simp [tins, tdel]
  | p :: L, h => by
    have h' := tget_none.1 h
    have hL : tget id L = none := tget_none.2 fun y hy => h' y (List.mem_cons_of_mem _ hy)
    simp only [tins]
    split
    · have : tdel id ((id, v) :: p :: L) = tdel id (p :: L) := by simp [tdel]
      rw [this]
      exact tdel_none h
    · have : tdel id (p :: tins id v L) = p :: tdel id (tins id v L) := by simp [tdel, h' p (List.mem_cons_self ..)]
      rw [this, tdel_ins hL]

/-- Two rows that rise and tell the same are the same. -/
theorem trow_ext : ∀ {L M : TRow}, TRises L → TRises M → (∀ x, tget x L = tget x M) → L = M
  | [], [], _, _, _ => rfl
  | [], q :: M, _, _, h => by have := h q.1; simp [tget] at this
  | p :: L, [], _, _, h => by have := h p.1; simp [tget] at this
  | p :: L, q :: M, hl, hm, h => by
    have hp := List.pairwise_cons.1 hl
    have hq := List.pairwise_cons.1 hm
    have e1 := h p.1
    have e2 := h q.1
    have hpq : p.1 = q.1 := by
      simp only [tget, if_true] at e1 e2
      by_cases c : q.1 = p.1
      · exact c.symm
      · rw [if_neg c] at e1
        rw [if_neg (Ne.symm c)] at e2
        have m1 := hq.1 _ (tget_mem e1.symm)
        have m2 := hp.1 _ (tget_mem e2)
        simp only at m1 m2
        omega
    have hv : p.2 = q.2 := by
      simp only [tget, if_true, hpq] at e1
      simpa using e1
    have hpq' : p = q := Prod.ext hpq hv
    subst hpq'
    congr 1
    refine trow_ext hp.2 hq.2 fun x => ?_
    by_cases c : p.1 = x
    · rw [tget_none.2 fun y hy => by have := hp.1 y hy; omega, tget_none.2 fun y hy => by have := hq.1 y hy; omega]
    · have := h x
      simp only [tget, if_neg c] at this
      exact this

/-! ### The next one -/
theorem tnext_none {id : Int} : ∀ {L : TRow}, tnext id L = none ↔ ∀ p ∈ L, p.1 ≤ id
  | [] => by simp [tnext]
  | p :: L => by
    simp only [tnext]
    split
    · rename_i h
      simp only [reduceCtorEq, List.mem_cons, forall_eq_or_imp, false_iff, not_and]
      intro h2; omega
    · rename_i h
      rw [tnext_none]
      simp only [List.mem_cons, forall_eq_or_imp, iff_and_self]
      intro _; omega
theorem tnext_some {id x : Int} : ∀ {L : TRow}, TRises L → tget x L ≠ none → id < x → (∀ y, id < y → y < x → tget y L = none) → tnext id L = some x
  | [], _, h, _, _ => absurd rfl h
  | p :: L, hr, hx, hid, hmin => by
    have hp := List.pairwise_cons.1 hr
    simp only [tnext]
    split
    · rename_i h1
      by_cases c : p.1 = x
      · rw [c]
      · simp only [tget, if_neg c] at hx
        obtain ⟨v, hv⟩ := Option.ne_none_iff_exists'.1 hx
        have := hp.1 _ (tget_mem hv)
        have := hmin p.1 h1 this
        simp [tget] at this
    · rename_i h1
      have c : p.1 ≠ x := by omega
      refine tnext_some hp.2 (by simpa only [tget, if_neg c] using hx) hid (fun y h2 h3 => ?_)
      have := hmin y h2 h3
      have c2 : p.1 ≠ y := by omega
      simpa only [tget, if_neg c2] using this
theorem tnext_spec {id x : Int} : ∀ {L : TRow}, TRises L → tnext id L = some x → id < x ∧ tget x L ≠ none ∧ ∀ y, id < y → y < x → tget y L = none
  | [], _, h => by simp [tnext] at h
  | p :: L, hr, h => by
    have hp := List.pairwise_cons.1 hr
    simp only [tnext] at h
    split at h
    · rename_i h1
      injection h with h
      subst h
      refine ⟨h1, by simp [tget], fun y h2 h3 => tget_none.2 fun q hq => ?_⟩
      rcases List.mem_cons.1 hq with rfl | hq
      · omega
      · have := hp.1 q hq; omega
    · rename_i h1
      obtain ⟨a1, a2, a3⟩ := tnext_spec hp.2 h
      obtain ⟨v, hv⟩ := Option.ne_none_iff_exists'.1 a2
      have a4 := hp.1 _ (tget_mem hv)
      simp only at a4
      refine ⟨a1, by simp only [tget]; rw [if_neg (by omega)]; exact a2, fun y h2 h3 => ?_⟩
      simp only [tget]
      rw [if_neg (by omega)]
      exact a3 y h2 h3
/-- From one that is there on to the one behind it. -/
theorem tnext_at {L : TRow} (h : TRises L) {k : Nat} (hk : k < L.length) {id : Int} (h1 : ∀ j, (hj : j < L.length) → j < k → (L[j]).1 ≤ id) (h2 : id < (L[k]).1) : tnext id L = some (L[k]).1 := by
  refine tnext_some h ?_ h2 ?_
  · have := tget_of_mem (id := (L[k]).1) (v := (L[k]).2) h (List.getElem_mem hk)
    rw [this]; simp
  · intro y hy1 hy2
    refine tget_none.2 fun p hp => ?_
    obtain ⟨j, hj, rfl⟩ := List.getElem_of_mem hp
    by_cases c : j < k
    · have := h1 j hj c; omega
    · by_cases c2 : j = k
      · subst c2; omega
      · have := (List.pairwise_iff_getElem.1 h) k j hk hj (by omega)
        omega
theorem rises_at {L : TRow} (h : TRises L) {j k : Nat} (hj : j < L.length) (hk : k < L.length) (hjk : j < k) : (L[j]).1 < (L[k]).1 := (List.pairwise_iff_getElem.1 h) j k hj hk hjk
theorem tget_at {L : TRow} (h : TRises L) {k : Nat} (hk : k < L.length) : tget (L[k]).1 L = some (L[k]).2 := tget_of_mem h (List.getElem_mem hk)

/-! ### The bits of a page -/
structure Page where
  b : Nat
  has : Nat
  vs : Nat → Int
abbrev Pages := Nat → Option Page
def bitOf (p : Option Page) (i : Nat) : Option Int :=
  match p with
  | none => none
  | some p => if p.has.testBit i then some (p.vs i) else none
/-- What is told by pages. -/
structure PagesOf (pg : Pages) (L : TRow) : Prop where
  tells : ∀ id : Nat, tget (id : Int) L = bitOf (pg (id / 64)) (id % 64)
  few : ∀ n p, pg n = some p → n ≤ 1023 ∧ p.has < 18446744073709551616 ∧ ∀ i, i < 64 → Word (p.vs i)

def setPage (pg : Pages) (n : Nat) (p : Option Page) : Pages := fun m => if m = n then p else pg m
theorem setPage_same {pg : Pages} {n : Nat} {p : Option Page} : setPage pg n p n = p := by simp [setPage]
theorem setPage_other {pg : Pages} {n m : Nat} {p : Option Page} (h : m ≠ n) : setPage pg n p m = pg m := by simp [setPage, h]

theorem testBit_and_bit {has i : Nat} : (has &&& 2 ^ i = 0) ↔ has.testBit i = false := by
  constructor
  · intro h
    have := congrArg (fun x => x.testBit i) h
    simpa [Nat.testBit_and, Nat.testBit_two_pow] using this
  · intro h
    apply Nat.eq_of_testBit_eq
    intro j
    rw [Nat.testBit_and, Nat.testBit_two_pow, Nat.zero_testBit]
    by_cases c : i = j
    · subst c; simp [h]
    · simp [c]
theorem testBit_or_bit {has i j : Nat} : (has ||| 2 ^ i).testBit j = (has.testBit j || decide (i = j)) := by
  rw [Nat.testBit_or, Nat.testBit_two_pow]
theorem bit_lt {i : Nat} (hi : i < 64) : 2 ^ i < 18446744073709551616 := by
  have := Nat.pow_lt_pow_right (a := 2) (by omega) hi
  simpa using this
theorem or_lt {a b : Nat} (ha : a < 18446744073709551616) (hb : b < 18446744073709551616) : a ||| b < 18446744073709551616 := by
  have := Nat.or_lt_two_pow (n := 64) (x := a) (y := b) (by simpa using ha) (by simpa using hb)
  simpa using this
theorem testBit_clear {has i j : Nat} (hh : has < 18446744073709551616) (hi : i < 64) : (has &&& (18446744073709551615 - 2 ^ i)).testBit j = (has.testBit j && !decide (i = j)) := by
  rw [Nat.testBit_and]
  by_cases hj : j < 64
  · have e : (18446744073709551615 - 2 ^ i).testBit j = !decide (i = j) := by
      have h1 : 18446744073709551615 - 2 ^ i = 2 ^ 64 - (2 ^ i + 1) := by omega
      rw [h1, Nat.testBit_two_pow_sub_succ (bit_lt hi)]
      simp [hj, Nat.testBit_two_pow]
    rw [e]
  · have : has.testBit j = false := Nat.testBit_lt_two_pow (Nat.lt_of_lt_of_le hh (by have := Nat.pow_le_pow_right (n := 2) (by omega) (show 64 ≤ j by omega); simpa using this))
    simp [this]
theorem clear_lt {has m : Nat} (hh : has < 18446744073709551616) : has &&& m < 18446744073709551616 := Nat.lt_of_le_of_lt Nat.and_le_left hh
/-- Bits below s struck. -/
theorem testBit_from {has s j : Nat} : (has >>> s <<< s).testBit j = (decide (s ≤ j) && has.testBit j) := by
  rw [Nat.testBit_shiftLeft]
  by_cases c : s ≤ j
  · have e : s + (j - s) = j := by omega
    simp [c, Nat.testBit_shiftRight, e]
  · simp [c]
theorem from_le {has s : Nat} : has >>> s <<< s ≤ has := by
  rw [Nat.shiftLeft_eq, Nat.shiftRight_eq_div_pow]
  exact Nat.div_mul_le_self _ _
theorem ctz_bit {x : Nat} (h0 : x ≠ 0) (h : x < 18446744073709551616) : Lib.ctz 64 x < 64 ∧ x.testBit (Lib.ctz 64 x) = true ∧ ∀ j, j < Lib.ctz 64 x → x.testBit j = false := by
  obtain ⟨m, hm, hk⟩ := Lib.ctzFrom_spec 64 x (by omega) (by simpa using h)
  have e : Lib.ctz 64 x = Lib.ctzFrom 64 x := by unfold Lib.ctz; rw [if_neg h0]
  rw [e]
  obtain ⟨k, hkk⟩ : ∃ k, Lib.ctzFrom 64 x = k := ⟨_, rfl⟩
  rw [hkk] at hm hk ⊢
  refine ⟨hk, ?_, ?_⟩
  · rw [hm, Nat.mul_comm, Nat.testBit_mul_two_pow]
    simp [Nat.testBit_zero]
  · intro j hj
    rw [hm, Nat.mul_comm, Nat.testBit_mul_two_pow]
    have : ¬ k ≤ j := by omega
    simp [this]
theorem zero_bits {has : Nat} (h : has = 0) (j : Nat) : has.testBit j = false := by subst h; simp

section
variable {pg : Pages} {L : TRow} (H : PagesOf pg L)
include H
theorem PagesOf.put {id : Nat} {v : Int} {p' : Page} (hn : tget (id : Int) L = none) (hid : id ≤ 65535) (hv : Word v)
    (hh : ∀ j, j < 64 → p'.has.testBit j = ((bitOf (pg (id / 64)) j).isSome || decide (id % 64 = j))) (h64 : p'.has < 18446744073709551616)
    (hvs : ∀ j, j < 64 → p'.vs j = if j = id % 64 then v else match pg (id / 64) with | none => 0 | some p => p.vs j) : PagesOf (setPage pg (id / 64) (some p')) (tins id v L) where
  tells := fun x => by
    rw [tget_ins hn]
    by_cases c : x / 64 = id / 64
    · rw [c, setPage_same]
      simp only [bitOf]
      rw [hh _ (Nat.mod_lt _ (by omega)), hvs _ (Nat.mod_lt _ (by omega))]
      by_cases c2 : x = id
      · subst c2; simp
      · have c3 : ¬ (x : Int) = (id : Int) := by omega
        have c4 : ¬ id % 64 = x % 64 := by omega
        have c5 : ¬ x % 64 = id % 64 := by omega
        rw [if_neg c3, H.tells x, c]
        simp only [c4, decide_false, Bool.or_false, if_neg c5]
        cases pg (id / 64) with
        | none => rfl
        | some p => simp only [bitOf]; split <;> simp
    · have c3 : ¬ (x : Int) = (id : Int) := by intro e; exact c (by rw [Int.ofNat.inj e])
      rw [setPage_other c, if_neg c3, H.tells x]
  few := fun n p hp => by
    by_cases c : n = id / 64
    · subst c
      rw [setPage_same] at hp
      injection hp with hp
      subst hp
      refine ⟨by omega, h64, fun i hi => ?_⟩
      rw [hvs i hi]
      split
      · exact hv
      · split
        · exact ⟨by omega, by omega⟩
        · rename_i q hq
          exact (H.few _ _ hq).2.2 i hi
    · rw [setPage_other c] at hp
      exact H.few n p hp
theorem PagesOf.set {id : Nat} {v : Int} {p p' : Page} (hp : pg (id / 64) = some p) (hb : p.has.testBit (id % 64) = true) (hid : id ≤ 65535) (hv : Word v) (hh : p'.has = p.has) (hvs : ∀ j, j < 64 → p'.vs j = if j = id % 64 then v else p.vs j) :
    PagesOf (setPage pg (id / 64) (some p')) (tset id v L) where
  tells := fun x => by
    rw [tget_set, H.tells x]
    by_cases c : x / 64 = id / 64
    · rw [c, setPage_same, hp]
      simp only [bitOf]
      rw [hh, hvs _ (Nat.mod_lt _ (by omega))]
      by_cases c2 : x = id
      · subst c2; simp [hb]
      · have c3 : ¬ (x : Int) = (id : Int) := by omega
        have c5 : ¬ x % 64 = id % 64 := by omega
        rw [if_neg c3, if_neg c5]
    · have c3 : ¬ (x : Int) = (id : Int) := by intro e; exact c (by rw [Int.ofNat.inj e])
      rw [setPage_other c, if_neg c3]
  few := fun n q hq => by
    by_cases c : n = id / 64
    · subst c
      rw [setPage_same] at hq
      injection hq with hq
      subst hq
      obtain ⟨a1, a2, a3⟩ := H.few _ _ hp
      refine ⟨a1, by rw [hh]; exact a2, fun i hi => ?_⟩
      rw [hvs i hi]
      split
      · exact hv
      · exact a3 i hi
    · rw [setPage_other c] at hq
      exact H.few n q hq
theorem PagesOf.drop {id : Nat} {p p' : Page} (hp : pg (id / 64) = some p) (hid : id ≤ 65535) (hh : ∀ j, j < 64 → p'.has.testBit j = (p.has.testBit j && !decide (id % 64 = j))) (h64 : p'.has < 18446744073709551616) (hvs : ∀ j, j < 64 → p'.vs j = if j = id % 64 then 0 else p.vs j) :
    PagesOf (setPage pg (id / 64) (some p')) (tdel id L) where
  tells := fun x => by
    rw [tget_del]
    by_cases c : x / 64 = id / 64
    · rw [c, setPage_same]
      simp only [bitOf]
      rw [hh _ (Nat.mod_lt _ (by omega)), hvs _ (Nat.mod_lt _ (by omega))]
      by_cases c2 : x = id
      · subst c2; simp
      · have c3 : ¬ (x : Int) = (id : Int) := by omega
        have c4 : ¬ id % 64 = x % 64 := by omega
        have c5 : ¬ x % 64 = id % 64 := by omega
        rw [if_neg c3, H.tells x, c, hp]
        simp only [c4, decide_false, Bool.not_false, Bool.and_true, if_neg c5, bitOf]
    · have c3 : ¬ (x : Int) = (id : Int) := by intro e; exact c (by rw [Int.ofNat.inj e])
      rw [setPage_other c, if_neg c3, H.tells x]
  few := fun n q hq => by
    by_cases c : n = id / 64
    · subst c
      rw [setPage_same] at hq
      injection hq with hq
      subst hq
      obtain ⟨a1, a2, a3⟩ := H.few _ _ hp
      refine ⟨a1, h64, fun i hi => ?_⟩
      rw [hvs i hi]
      split
      · exact ⟨by omega, by omega⟩
      · exact a3 i hi
    · rw [setPage_other c] at hq
      exact H.few n q hq
theorem PagesOf.strike {n : Nat} {p : Page} (hp : pg n = some p) (h0 : p.has = 0) : PagesOf (setPage pg n none) L where
  tells := fun x => by
    rw [H.tells x]
    by_cases c : x / 64 = n
    · rw [c, setPage_same, hp]
      simp [bitOf, h0]
    · rw [setPage_other c]
  few := fun m q hq => by
    by_cases c : m = n
    · subst c; rw [setPage_same] at hq; cases hq
    · rw [setPage_other c] at hq; exact H.few m q hq
end
theorem PagesOf.new : PagesOf (fun _ => none) [] := ⟨fun _ => rfl, fun _ _ h => by cases h⟩

end Go.Proofs.YtddehgcdflfonaaDoor
