/-
  A command that is its own, told; when two are told alike.
-/
import Derived.Test.YtjhffbhjiflfeaaDoorProg
import Derived.Test.YtjhffbhjiflfeaaDoorCmdX
import Derived.Test.YtjhffbhjiflfeaaDoorOctS
namespace Go.Proofs.YtjhffbhjiflfeaaDoor
set_option linter.unusedVariables false
set_option linter.unusedSimpArgs false
set_option maxRecDepth 100000
open Go.RowKit

/-- A struct is stored, whole: inside a region that draws its order. -/
theorem wp_store_blk {P : Program} {op : Oper} {a : Act} {w : World} {K : Act → World → Prop} {Q : Exit → Act → World → Prop} (ty : TypeId) (x y : Operand) (ho : op.op = .store ty x y) (b : Nat) (cells cs : Array Value) (hx : a.eval x = .pointer (some ⟨b, 0, none⟩)) (hy : a.eval y = .agg cells) (t : TypeId) (hb : Blk w b t cs)
    (hn : 0 + cells.size ≤ cs.size) (hi : (P.info? ty).map (·.size) = some cells.size) (h1 : cells.all (·.oneCell') = true)
    (h : ∀ w', Blk w' b t (splice cs 0 cells.toList) → Fr (fun k => k = b) w w' → K (a.put op.dst undef) w') : op.wp P a w K Q := by
  obtain ⟨h2, h3⟩ := Blk.setCells cells.toList 0 hb
  exact wp_store_mid ty x y ho b 0 cells hx hy (hb.there 0 cells.size hn) hi h1 (h _ h2 h3)
theorem own_zero (k : Nat) (c : Nat → Int) : ownC k c 0 = c 0 := by simp [ownC]
theorem own_own (k : Nat) (c : Nat → Int) (i : Nat) : ownC k (ownC k c) i = ownC k c i := by
  by_cases hi : i = 0
  · subst hi; rw [own_zero]
  · simp only [ownC, if_neg hi]
    by_cases hp : partOf k i = true
    · rw [if_pos hp, if_pos hp]
    · rw [if_neg hp, if_neg hp]
theorem own_same (k : Nat) (c : Nat → Int) : eqB 24 (ownC k c) (ownC k (ownC k c)) = true := eqB_iff.2 fun i _ => (own_own k c i).symm
theorem own_told {k : Nat} {c : Nat → Int} (hf : Fits cmdT 24 c) (h0 : c 0 = k) (k0 : 1 ≤ k) (k1 : k ≤ 7) : Told (k :: encs (ownC k c) (slotsOf k)) (ownC k c) k :=
  ⟨k0, k1, by rw [own_zero]; exact h0, fits_own hf, own_same k c, rfl⟩
theorem own_no {k : Nat} {c : Nat → Int} (h0 : c 0 = k) (hk : k = 0 ∨ 7 < k) (w : World) : Calls Tryd.prog 6 #[.agg (rowA cmdT 24 (ownC k c))] w fun e w' => e = .returned (.tuple #[.string ⟨#[]⟩, .int .i64 2]) ∧ Below w.heap.size w w' :=
  cmd_command_no (ownC k c) k w (by rw [own_zero]; exact h0) hk
/-- Two that are told have the same bytes just if they are the same. -/
theorem told_alike {l m : List Nat} {C D : Nat → Int} {k j : Nat} (h : Told l C k) (g : Told m D j) : ((bs l).toList == (bs m).toList) = eqB 24 C D := by
  cases hq : eqB 24 C D with
  | true =>
    have e := eqB_iff.1 hq
    have hkj : k = j := by
      have := e 0 (by decide)
      rw [h.zero, g.zero] at this
      omega
    subst hkj
    have : l = m := by
      rw [h.bytes, g.bytes]
      congr 1
      exact encs_congr fun s hs => e s.2 (slots_in k s hs).2.2
    rw [this]
    exact beq_self_eq_true _
  | false =>
    apply bs_neq
    intro e
    have e2 := bs_inj h.isBytes g.isBytes e
    subst e2
    have := (rowA_inj h.fits g.fits).1 (h.same g).2
    rw [eqB_iff.2 this] at hq
    cases hq
theorem rtold_alike {l m : List Nat} {C D : Nat → Int} (h : RTold l C) (g : RTold m D) : ((bs l).toList == (bs m).toList) = eqB 10 C D := by
  cases hq : eqB 10 C D with
  | true =>
    have e := eqB_iff.1 hq
    have : l = m := by
      rw [h.bytes, g.bytes]
      congr 1
      exact encs_congr fun s hs => e s.2 (reply_in s hs).2.2
    rw [this]
    exact beq_self_eq_true _
  | false =>
    apply bs_neq
    intro e
    have e2 := bs_inj h.isBytes g.isBytes e
    subst e2
    have := (rowA_inj h.fits g.fits).1 (h.same g)
    rw [eqB_iff.2 this] at hq
    cases hq

end Go.Proofs.YtjhffbhjiflfeaaDoor
