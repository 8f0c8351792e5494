/-
  Arguments opened to cells: plain data of whatever flat type (integers, bools, structs of these), by value or in a slice. Nothing of the program stands here.
-/
import Derived.Test.YtjhffbhjiflfeaaGreatLib
namespace Go.Proofs.YtjhffbhjiflfeaaGreat
set_option linter.unusedVariables false
set_option linter.unusedSimpArgs false
open Go.RowKit Go.ChangeShapes Go.WideShapes Go.ChangeAt Go.Deep

/-- A scalar: an integer of some kind, or a bool. -/
inductive Sc where
  | i (k : IntKind)
  | b

/-- What a cell of that scalar holds. -/
def Sc.ok : Sc → Value → Prop
  | .i k, v => ∃ n, v = .int k n ∧ (Lit.int k n).wf = true
  | .b, v => ∃ x, v = .bool x

/-- A type whose data are just so many scalars, one behind the other. -/
structure FlatT (P : Program) (t : TypeId) (ks : List Sc) : Prop where
  size : P.cellsOf t = ks.length
  out : ∀ {H : Type} {enc : TypeId × Value → H} {w : World} {base : Nat} {spare : Nat → Bool} {held : Bool} {fuel : Nat} {cs : List Value} {x : DataW H × List MemPlace},
    DataW.trod enc P w base spare held fuel t cs = some x → cs.length = ks.length ∧ ∀ (j : Nat) (k : Sc), ks[j]? = some k → ∃ v, cs[j]? = some v ∧ k.ok v

section
variable {P : Program} {t : TypeId}

theorem flat_int {k : IntKind} (hu : P.underlying t = some (.int k)) (hc : P.cellsOf t = 1) : FlatT P t [.i k] := by
  refine ⟨hc, fun h => ?_⟩
  obtain ⟨n, rfl, rfl, hw⟩ := DataW.trod_int hu h
  refine ⟨rfl, fun j k' hj => ?_⟩
  match j, hj with
  | 0, hj => simp at hj; subst hj; exact ⟨_, rfl, n, rfl, hw⟩

theorem flat_bool (hu : P.underlying t = some .bool) (hc : P.cellsOf t = 1) : FlatT P t [.b] := by
  refine ⟨hc, fun h => ?_⟩
  obtain ⟨n, rfl, rfl⟩ := DataW.trod_bool hu h
  refine ⟨rfl, fun j k' hj => ?_⟩
  match j, hj with
  | 0, hj => simp at hj; subst hj; exact ⟨_, rfl, n, rfl⟩

/-- Fields one behind the other, from an offset on. -/
def FlatFs (P : Program) : Nat → List Field → List (List Sc) → Prop
  | _, [], [] => True
  | o, f :: fs, ks :: kss => f.offset = o ∧ FlatT P f.type ks ∧ FlatFs P (o + ks.length) fs kss
  | _, _, _ => False

theorem FlatFs.at_ {P : Program} : ∀ {fs : List Field} {kss : List (List Sc)} {o : Nat}, FlatFs P o fs kss → ∀ (j : Nat) (k : Sc), kss.flatten[j]? = some k →
    ∃ (i : Nat) (f : Field) (ks : List Sc) (r : Nat), fs[i]? = some f ∧ FlatT P f.type ks ∧ ks[r]? = some k ∧ f.offset + r = o + j
  | [], [], o, _, j, k, hj => by simp at hj
  | f :: fs, ks :: kss, o, ⟨ho, hf, hr⟩, j, k, hj => by
    rw [List.flatten_cons] at hj
    by_cases hlt : j < ks.length
    · rw [List.getElem?_append_left hlt] at hj
      exact ⟨0, f, ks, j, rfl, hf, hj, by omega⟩
    · rw [List.getElem?_append_right (by omega)] at hj
      obtain ⟨i, f', ks', r, h1, h2, h3, h4⟩ := FlatFs.at_ hr _ _ hj
      exact ⟨i + 1, f', ks', r, h1, h2, h3, by omega⟩
  | [], _ :: _, _, h, _, _, _ => h.elim
  | _ :: _, [], _, h, _, _, _ => h.elim

theorem flat_struct {fs : List Field} {kss : List (List Sc)} (hu : P.underlying t = some (.struct ⟨fs⟩)) (hf : FlatFs P 0 fs kss)
    (hc : P.cellsOf t = kss.flatten.length) : FlatT P t kss.flatten := by
  refine ⟨hc, fun h => ?_⟩
  obtain ⟨xs, n, _, _, hlen, hxl, hx⟩ := DataW.trod_struct hu h
  refine ⟨by rw [hlen, hc], fun j k hj => ?_⟩
  obtain ⟨i, f, ks, r, h1, h2, h3, h4⟩ := hf.at_ j k hj
  have hi : i < fs.length := (List.getElem?_eq_some_iff.1 h1).1
  have hg := hx i f (by simpa using h1)
  have hxi : xs[i]? = some (xs[i]'(by rw [hxl]; simpa using hi)) := List.getElem?_eq_getElem _
  rw [hxi] at hg
  obtain ⟨hl, hv⟩ := h2.out hg
  obtain ⟨v, hv1, hv2⟩ := hv r k h3
  refine ⟨v, ?_, hv2⟩
  have hr : r < ks.length := (List.getElem?_eq_some_iff.1 h3).1
  rw [h2.size, List.getElem?_take_of_lt hr, List.getElem?_drop] at hv1
  rw [← hv1]
  congr 1
  omega

/-- The same, the fields' types and offsets seen by the kernel. -/
def FlatSeen (P : Program) : Nat → List (TypeId × Nat) → List (List Sc) → Prop
  | _, [], [] => True
  | o, f :: fs, ks :: kss => f.2 = o ∧ FlatT P f.1 ks ∧ FlatSeen P (o + ks.length) fs kss
  | _, _, _ => False
theorem flatFs_seen {P : Program} : ∀ {fs : List Field} {l : List (TypeId × Nat)} {kss : List (List Sc)} {o : Nat}, (fs.map fun f => (f.type, f.offset)) = l → FlatSeen P o l kss → FlatFs P o fs kss
  | [], _, [], _, hl, h => trivial
  | [], _, _ :: _, _, hl, h => by subst hl; exact h.elim
  | f :: fs, _, [], _, hl, h => by subst hl; exact h.elim
  | f :: fs, _, ks :: kss, o, hl, h => by
    subst hl
    exact ⟨h.1, h.2.1, flatFs_seen rfl h.2.2⟩
theorem flat_seen {fs : Array Field} {l : List (TypeId × Nat)} {kss : List (List Sc)} {ks : List Sc} (hu : P.underlying t = some (.struct fs)) (hl : (fs.toList.map fun f => (f.type, f.offset)) = l)
    (hc : P.cellsOf t = ks.length) (hf : FlatSeen P 0 l kss) (hk : kss.flatten = ks) : FlatT P t ks := by
  subst hk
  exact flat_struct (fs := fs.toList) hu (flatFs_seen hl hf) hc

variable {H : Type} {enc : TypeId × Value → H} {w : World} {base : Nat} {spare : Nat → Bool} {held : Bool} {r : Reach} {b0 : Nat}

/-- A struct by value: its cells, each of its scalar. -/
theorem open_flat {fs : Array Field} {ks : List Sc} {v : Value} {d : DataW H} {p : List MemPlace} (hu : P.underlying t = some (.struct fs)) (hF : FlatT P t ks)
    (hv : Value.okWide P w r b0 t v) (h : DataW.Trod enc P w base spare held t v d p) :
    ∃ cs : List Value, v = .agg cs.toArray ∧ cs.length = ks.length ∧ ∀ (j : Nat) (k : Sc), ks[j]? = some k → ∃ u, cs[j]? = some u ∧ k.ok u := by
  obtain ⟨cs, rfl, _⟩ := okWide_struct hu hv
  obtain ⟨fuel, hf⟩ := h
  obtain ⟨h1, h2⟩ := hF.out hf
  exact ⟨cs.toList, by simp, by simpa [Value.cells] using h1, fun j k hj => by simpa [Value.cells] using h2 j k hj⟩

/-- A slice of plain data that came in: every cell of its elements, each of its scalar. -/
theorem open_flats {e : TypeId} {ks : List Sc} {fuel : Nat} {cs : List Value} {x : DataW H × List MemPlace} (hu : P.underlying t = some (.slice e)) (hF : FlatT P e ks) (hpos : 0 < ks.length)
    (h : DataW.trod enc P w base spare held fuel t cs = some x) :
    ∃ (A : Option Addr) (n cap : Nat), cs = [.slice A n cap] ∧ n ≤ cap ∧ cap ≤ maxLen ∧
      (0 < n → ∃ b off, A = some ⟨b, off, none⟩ ∧ b < w.heap.size) ∧
      ∀ i, i < n → ∀ (j : Nat) (k : Sc), ks[j]? = some k → ∃ u, k.ok u ∧ ∀ b off, A = some ⟨b, off, none⟩ → w.cell? ⟨b, off + (i * ks.length + j), none⟩ = some u := by
  rcases open_slice hu h with ⟨rfl, _⟩ | ⟨a, len, cap, m, n, D, Pl, rfl, hb, hl, hm, hmm, _, hx⟩
  · exact ⟨none, 0, 0, rfl, Nat.le_refl _, Nat.zero_le _, fun h => absurd h (by omega), fun i hi => absurd hi (by omega)⟩
  · have hlm : len ≤ m := by rw [hmm]; split <;> omega
    have each : ∀ i, i < len → ∀ (j : Nat) (k : Sc), ks[j]? = some k → ∃ u, k.ok u ∧ w.cell? (a.add (i * ks.length + j)) = some u := by
      intro i hi j k hj
      obtain ⟨cs', h1, h2⟩ := hx i (by omega)
      obtain ⟨hcl, hcv⟩ := hF.out h2
      obtain ⟨u, hu1, hu2⟩ := hcv j k hj
      obtain ⟨_, _, hcell⟩ := World.cells?_some h1
      have hjl : j < ks.length := (List.getElem?_eq_some_iff.1 hj).1
      have := hcell j (by rw [hF.size]; exact hjl)
      rw [add_add, hF.size, hu1] at this
      exact ⟨u, hu2, this⟩
    refine ⟨some a, len, cap, rfl, hl, hm, fun h0 => ?_, fun i hi j k hj => ?_⟩
    · obtain ⟨u, _, hc⟩ := each 0 h0 0 _ (List.getElem?_eq_getElem hpos)
      have hs : a.spot = none := by simpa [Addr.add] using World.cell?_spot hc
      obtain ⟨b, off, spot⟩ := a
      simp only at hs
      subst hs
      refine ⟨b, off, rfl, ?_⟩
      have := World.block_lt_of_cell? _ _ hc
      rwa [add_block] at this
    · obtain ⟨u, hok, hc⟩ := each i hi j k hj
      refine ⟨u, hok, fun b off hA => ?_⟩
      injection hA with hA
      subst hA
      rw [← hc]
      congr 1
      unfold Addr.add
      split <;> simp_all
end

/-- One function for the numbers of a column. -/
theorem column_int {n : Nat} {k : IntKind} {p : Nat → Value → Prop} (h : ∀ i, i < n → ∃ u, (Sc.i k).ok u ∧ p i u) :
    ∃ f : Nat → Int, ∀ i, i < n → (Lit.int k (f i)).wf = true ∧ p i (.int k (f i)) := by
  obtain ⟨f, hf⟩ := choose_lt (α := Int) (p := fun i x => (Lit.int k x).wf = true ∧ p i (.int k x)) fun i hi => by
    obtain ⟨u, ⟨x, rfl, hw⟩, hp⟩ := h i hi
    exact ⟨x, hw, hp⟩
  exact ⟨f, hf⟩
theorem column_bool {n : Nat} {p : Nat → Value → Prop} (h : ∀ i, i < n → ∃ u, Sc.b.ok u ∧ p i u) :
    ∃ f : Nat → Bool, ∀ i, i < n → p i (.bool (f i)) := by
  obtain ⟨f, hf⟩ := choose_lt (α := Bool) (p := fun i x => p i (.bool x)) fun i hi => by
    obtain ⟨u, ⟨x, rfl⟩, hp⟩ := h i hi
    exact ⟨x, hp⟩
  exact ⟨f, hf⟩

end Go.Proofs.YtjhffbhjiflfeaaGreat
