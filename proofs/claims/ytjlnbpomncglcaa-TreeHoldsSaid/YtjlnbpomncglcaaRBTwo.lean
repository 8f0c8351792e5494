/-
  Two trees beside each other; rows that hold the same.
-/
import Derived.Test.YtjlnbpomncglcaaProg
import Derived.Test.YtjlnbpomncglcaaRBCols
namespace Go.Proofs.Ytjlnbpomncglcaa
set_option linter.unusedVariables false
set_option linter.unusedSimpArgs false
set_option maxRecDepth 100000
open Go.RowKit Go.Shelf

/-- Rows that rise and hold the same are the same. -/
theorem rises_ext : ∀ {A B : Row}, Rises A → Rises B → (∀ p, p ∈ A ↔ p ∈ B) → A = B
  | [], [], _, _, _ => rfl
  | [], q :: B, _, _, h => absurd ((h q).2 (List.mem_cons_self ..)) (by simp)
  | p :: A, [], _, _, h => absurd ((h p).1 (List.mem_cons_self ..)) (by simp)
  | p :: A, q :: B, hA, hB, h => by
    have hA2 := List.pairwise_cons.1 hA
    have hB2 := List.pairwise_cons.1 hB
    have e : p = q := by
      rcases List.mem_cons.1 ((h p).1 (List.mem_cons_self ..)) with e | hp
      · exact e
      · rcases List.mem_cons.1 ((h q).2 (List.mem_cons_self ..)) with e | hq
        · exact e.symm
        · have h1 := hA2.1 q hq
          have h2 := hB2.1 p hp
          rw [klt_asymm h1] at h2
          cases h2
    subst e
    congr 1
    refine rises_ext hA2.2 hB2.2 fun x => ⟨fun hx => ?_, fun hx => ?_⟩
    · rcases List.mem_cons.1 ((h x).1 (List.mem_cons_of_mem _ hx)) with e | hx2
      · subst e
        have := hA2.1 x hx
        rw [klt_irr] at this
        cases this
      · exact hx2
    · rcases List.mem_cons.1 ((h x).2 (List.mem_cons_of_mem _ hx)) with e | hx2
      · subst e
        have := hB2.1 x hx
        rw [klt_irr] at this
        cases this
      · exact hx2
theorem mem_rput {k : RK} {v : Int} {L : Row} {p : RK × Int} : p ∈ rput k v L ↔ p ∈ L ∨ (get k L = none ∧ p = (k, v)) := by
  unfold rput
  split
  · rename_i h
    rw [mem_ins]
    constructor
    · rintro (h1 | h1)
      · exact Or.inr ⟨h, h1⟩
      · exact Or.inl h1
    · rintro (h1 | h1)
      · exact Or.inr h1
      · exact Or.inl h1.2
  · rename_i h
    constructor
    · exact Or.inl
    · rintro (h1 | h1)
      · exact h1
      · exact absurd h1.1 h
/-- Keys put in one behind the other, each with a value of its own. -/
def putsRow (K : Nat → RK) (F : RK → Int) : Nat → Row
  | 0 => []
  | i + 1 => rput (K i) (F (K i)) (putsRow K F i)
theorem mem_puts {K : Nat → RK} {F : RK → Int} {p : RK × Int} : ∀ {n : Nat}, p ∈ putsRow K F n ↔ ∃ j, j < n ∧ p = (K j, F (K j))
  | 0 => by simp [putsRow]
  | n + 1 => by
    simp only [putsRow]
    rw [mem_rput, mem_puts (n := n)]
    constructor
    · rintro (⟨j, hj, e⟩ | ⟨-, e⟩)
      · exact ⟨j, by omega, e⟩
      · exact ⟨n, by omega, e⟩
    · rintro ⟨j, hj, e⟩
      by_cases hjn : j = n
      · subst hjn
        rcases hg : get (K j) (putsRow K F j) with _ | x
        · exact Or.inr ⟨rfl, e⟩
        · left
          have hm := get_mem hg
          obtain ⟨i, hi, e2⟩ := mem_puts.1 hm
          refine ⟨i, hi, ?_⟩
          have e3 : K j = K i := congrArg Prod.fst e2
          rw [e, e3]
      · exact Or.inl ⟨j, by omega, e⟩
theorem puts_rises (K : Nat → RK) (F : RK → Int) : ∀ n, Rises (putsRow K F n)
  | 0 => List.Pairwise.nil
  | n + 1 => rput_rises (puts_rises K F n)
theorem puts_len (K : Nat → RK) (F : RK → Int) : ∀ n, (putsRow K F n).length ≤ n
  | 0 => Nat.le_refl _
  | n + 1 => by
    have := puts_len K F n
    have := rput_length (K n) (F (K n)) (putsRow K F n)
    simp only [putsRow]
    omega
theorem puts_back (K : Nat → RK) (F : RK → Int) (n : Nat) : putsRow (fun i => K (n - 1 - i)) F n = putsRow K F n := by
  refine rises_ext (puts_rises _ _ _) (puts_rises _ _ _) fun p => ?_
  rw [mem_puts, mem_puts]
  constructor
  · rintro ⟨j, hj, e⟩
    exact ⟨n - 1 - j, by omega, e⟩
  · rintro ⟨j, hj, e⟩
    exact ⟨n - 1 - j, by omega, by rw [show n - 1 - (n - 1 - j) = j by omega]; exact e⟩

/-- Two trees, apart. -/
structure Two (w0 w : World) (T1 : Nat) (t1 : RB Int) (T2 : Nat) (t2 : RB Int) : Prop where
  a : TrAt w0 w T1 t1
  b : TrAt w0 w T2 t2
  hT : T1 ≠ T2
  h1 : T1 ∉ t2.blocks
  h2 : T2 ∉ t1.blocks
  h3 : ∀ x ∈ t1.blocks, x ∉ t2.blocks
theorem Two.symm {w0 w : World} {T1 T2 : Nat} {t1 t2 : RB Int} (h : Two w0 w T1 t1 T2 t2) : Two w0 w T2 t2 T1 t1 := ⟨h.b, h.a, Ne.symm h.hT, h.h2, h.h1, fun x hx hx2 => h.h3 x hx2 hx⟩
theorem Two.next {w0 w w' : World} {T1 T2 : Nat} {t1 t2 : RB Int} (h : Two w0 w T1 t1 T2 t2) (hb : Below w.heap.size w w') : Two w0 w' T1 t1 T2 t2 := ⟨h.a.next hb, h.b.next hb, h.hT, h.h1, h.h2, h.h3⟩
theorem Two.stays {w0 w w' : World} {T1 T2 : Nat} {t1 t2 : RB Int} {B : Nat} (h : Two w0 w T1 t1 T2 t2) (hs : Stays B w w') (hB : w0.heap.size ≤ B) : Two w0 w' T1 t1 T2 t2 := ⟨h.a.stays hs hB, h.b.stays hs hB, h.hT, h.h1, h.h2, h.h3⟩
theorem Two.step {w0 w w' : World} {T1 T2 : Nat} {t1 t1' t2 : RB Int} (h : Two w0 w T1 t1 T2 t2) (k : TrToU w w' T1 t1 t1') : Two w0 w' T1 t1' T2 t2 :=
  ⟨h.a.step k, ⟨h.b.is.fr k.fr (by rintro (e | e); exact h.hT e.symm; exact h.h2 e) (fun x hx => by rintro (e | e); exact h.h1 (e ▸ hx); exact h.h3 x e hx), h.b.ge, h.b.bl, (h.a.step k).below⟩, h.hT, h.h1,
    fun hx => by
      rcases k.blocks _ hx with e | e
      · exact h.h2 e
      · have := h.b.is.blk.lt; omega,
    fun x hx hx2 => by
      rcases k.blocks _ hx with e | e
      · exact h.h3 x e hx2
      · have := RepU.lt h.b.is.rep x hx2; omega⟩
/-- A block that is no part of a tree. -/
def Out (B T : Nat) (t : RB Int) : Prop := B ≠ T ∧ B ∉ t.blocks
theorem Out.step {B T : Nat} {t t' : RB Int} {w w' : World} (h : Out B T t) (k : TrToU w w' T t t') (hB : B < w.heap.size) : Out B T t' :=
  ⟨h.1, fun hx => by
    rcases k.blocks _ hx with e | e
    · exact h.2 e
    · omega⟩
theorem Out.blk {B T : Nat} {t t' : RB Int} {w w' : World} {ty : TypeId} {cs : Array Value} (h : Out B T t) (k : TrToU w w' T t t') (b : Blk w B ty cs) : Blk w' B ty cs := b.fr k.fr (by rintro (e | e); exact h.1 e; exact h.2 e)
theorem Out.of_low {w0 w : World} {B T : Nat} {t : RB Int} (h : TrAt w0 w T t) (hB : B < w0.heap.size) : Out B T t := ⟨fun e => by have := h.ge; omega, fun hx => by have := h.bl _ hx; omega⟩

end Go.Proofs.Ytjlnbpomncglcaa
