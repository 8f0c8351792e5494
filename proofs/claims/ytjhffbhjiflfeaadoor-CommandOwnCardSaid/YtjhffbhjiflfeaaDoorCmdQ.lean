/-
  Commands, replies and specs as rows of numbers; nothing of the program's code.
-/
import Derived.Test.YtjhffbhjiflfeaaDoorProg
import Derived.Test.YtjhffbhjiflfeaaDoorCmdR
import Derived.Test.YtjhffbhjiflfeaaDoorRowVal
import Derived.Test.YtjhffbhjiflfeaaDoorCmdG
namespace Go.Proofs.YtjhffbhjiflfeaaDoor
set_option linter.unusedVariables false
set_option linter.unusedSimpArgs false
set_option maxRecDepth 100000
open Go.RowKit

/-- A cell of a kind: as cellV, and 9: a byte. -/
def cellC (t : Nat) (n : Int) : Value := if t = 9 then .int .u8 n else cellV t n
/-- A row of numbers, each of its kind. -/
def rowA (ty : Nat → Nat) (n : Nat) (c : Nat → Int) : Array Value := ((List.range n).map fun i => cellC (ty i) (c i)).toArray
/-- The kinds of a command's cells, of a spec's, of a reply's. -/
def cmdT (i : Nat) : Nat := if i = 0 then 9 else if i = 6 then 3 else if i = 2 ∨ i = 4 ∨ i = 5 ∨ i = 16 ∨ i = 17 ∨ i = 18 ∨ i = 20 ∨ i = 21 then 1 else 0
def specT (i : Nat) : Nat := cmdT (i + 4)
def replyT (i : Nat) : Nat := if i = 0 then 2 else 0
def fitC (t : Nat) (n : Int) : Prop := if t = 9 then 0 ≤ n ∧ n < 256 else FitS t n
def Fits (ty : Nat → Nat) (n : Nat) (c : Nat → Int) : Prop := ∀ i, i < n → fitC (ty i) (c i)

theorem cellC_one (t : Nat) (n : Int) : (cellC t n).oneCell' = true := by
  unfold cellC
  split
  · rfl
  · unfold cellV
    split <;> rfl
section
variable {ty : Nat → Nat} {n : Nat} {c d : Nat → Int}
theorem rowA_size : (rowA ty n c).size = n := by simp [rowA]
theorem rowA_get {i : Nat} (h : i < n) : (rowA ty n c)[i]? = some (cellC (ty i) (c i)) := by simp [rowA, h]
theorem rowA_none {i : Nat} (h : n ≤ i) : (rowA ty n c)[i]? = none := by simp [rowA, h]
theorem rowA_one : (rowA ty n c).all (·.oneCell') = true := by
  rw [Array.all_eq_true_iff_forall_mem]
  intro v hv
  simp only [rowA, List.mem_toArray, List.mem_map] at hv
  obtain ⟨i, _, rfl⟩ := hv
  exact cellC_one _ _
theorem rowA_ext {a : Array Value} (hs : a.size = n) (h : ∀ i, i < n → a[i]? = some (cellC (ty i) (c i))) : a = rowA ty n c := by
  apply Array.ext_getElem?
  intro i
  by_cases hi : i < n
  · rw [h i hi, rowA_get hi]
  · rw [rowA_none (by omega), Array.getElem?_eq_none (by omega)]
theorem rowA_congr (h : ∀ i, i < n → c i = d i) : rowA ty n c = rowA ty n d := rowA_ext rowA_size fun i hi => by rw [rowA_get hi, h i hi]
/-- One number turned. -/
def upd (c : Nat → Int) (p : Nat) (x : Int) : Nat → Int := fun k => if k = p then x else c k
theorem rowA_set {p : Nat} (x : Int) : (rowA ty n c).setIfInBounds p (cellC (ty p) x) = rowA ty n (upd c p x) := by
  refine rowA_ext (by rw [Array.size_setIfInBounds, rowA_size]) fun i hi => ?_
  by_cases h : i = p
  · subst h
    rw [Array.getElem?_setIfInBounds_self_of_lt (by rw [rowA_size]; exact hi), upd, if_pos rfl]
  · rw [Array.getElem?_setIfInBounds_ne (Ne.symm h), rowA_get hi, upd, if_neg h]
theorem fit_inj {t : Nat} {x y : Int} (hx : fitC t x) (hy : fitC t y) (h : cellC t x = cellC t y) : x = y := by
  unfold fitC at hx hy
  unfold cellC at h
  split at h
  · injection h
  · rename_i h9
    rw [if_neg h9] at hx hy
    match t, hx, hy, h with
    | 0, _, _, h => injection h
    | 1, _, _, h => injection h
    | 2, _, _, h => injection h
    | t + 3, hx, hy, h =>
      have h : Value.bool (decide (x = 1)) = .bool (decide (y = 1)) := h
      injection h with h
      rcases hx with rfl | rfl <;> rcases hy with rfl | rfl
      · rfl
      · simp at h
      · simp at h
      · rfl
theorem rowA_inj (hc : Fits ty n c) (hd : Fits ty n d) : rowA ty n c = rowA ty n d ↔ ∀ i, i < n → c i = d i := by
  constructor
  · intro h i hi
    have e := congrArg (fun a : Array Value => a[i]?) h
    simp only [rowA_get hi] at e
    injection e with e
    exact fit_inj (hc i hi) (hd i hi) e
  · exact rowA_congr
/-- A part of a row. -/
def partA (ty : Nat → Nat) (o m : Nat) (c : Nat → Int) : List Value := (List.range m).map fun i => cellC (ty (o + i)) (c (o + i))
theorem partA_len {o m : Nat} : (partA ty o m c).length = m := by simp [partA]
theorem partA_get {o m j : Nat} (h : j < m) : (partA ty o m c)[j]? = some (cellC (ty (o + j)) (c (o + j))) := by simp [partA, h]
theorem partA_of {o m : Nat} (h : o + m ≤ n) : ∀ j v, (partA ty o m c)[j]? = some v → (rowA ty n c)[o + j]? = some v := fun j v hj => by
  have hj2 : j < m := by
    have := (List.getElem?_eq_some_iff.1 hj).1
    rwa [partA_len] at this
  rw [partA_get hj2] at hj
  rw [rowA_get (by omega), hj]
theorem partA_one {o m : Nat} : (partA ty o m c).toArray.all (·.oneCell') = true := by
  rw [Array.all_eq_true_iff_forall_mem]
  intro v hv
  simp only [partA, List.mem_toArray, List.mem_map] at hv
  obtain ⟨i, _, rfl⟩ := hv
  exact cellC_one _ _
/-- A part put in. -/
def over (d : Nat → Int) (o m : Nat) (c : Nat → Int) : Nat → Int := fun k => if o ≤ k ∧ k < o + m then c k else d k
theorem rowA_over {o m : Nat} (h : o + m ≤ n) : splice (rowA ty n d) o (partA ty o m c) = rowA ty n (over d o m c) := by
  refine rowA_ext (by rw [splice_size, rowA_size]) fun i hi => ?_
  rw [splice_get _ _ _ _ (by rw [partA_len, rowA_size]; exact h), partA_len]
  by_cases h1 : o ≤ i ∧ i < o + m
  · rw [if_pos h1, over, if_pos h1, partA_get (by omega), show o + (i - o) = i by omega]
  · rw [if_neg h1, over, if_neg h1, rowA_get hi]
theorem rowA_whole : splice (rowA ty n d) 0 (rowA ty n c).toList = rowA ty n c := by
  rw [splice_all _ _ (by rw [Array.length_toList, rowA_size, rowA_size]), Array.toArray_toList]
theorem partA_rowA {o m : Nat} : (partA ty o m c).toArray = rowA (fun i => ty (o + i)) m (fun i => c (o + i)) := rfl
/-- What comes of reading into a row. -/
theorem reads_rowA : ∀ (L : List (Nat × Nat)) (c : Nat → Int) (l : List Nat) (f : Bool), (∀ s ∈ L, ty s.2 = s.1 ∧ s.1 < 9) → reads L (rowA ty n c) l f = (rowA ty n (readV L c l), (reads L (rowA ty n c) l f).2)
  | [], c, l, f, _ => rfl
  | s :: r, c, l, f, h => by
    obtain ⟨h1, h2⟩ := h s (List.mem_cons_self ..)
    have e : cellV s.1 (rdV s.1 l) = cellC (ty s.2) (rdV s.1 l) := by rw [h1]; unfold cellC; rw [if_neg (by omega)]
    have k := reads_rowA r (upd c s.2 (rdV s.1 l)) (rdL s.1 l) (rdF s.1 l f) (fun x hx => h x (List.mem_cons_of_mem _ hx))
    simp only [reads]
    rw [e, rowA_set, k]
    rfl
end

/-! ### Which slots a kind has -/
def slotsOf (k : Nat) : List (Nat × Nat) :=
  match k with
  | 1 => [(0, 1), (1, 2), (0, 3)]
  | 2 => [(1, 4), (1, 5), (3, 6), (0, 7), (0, 8), (0, 9), (0, 10), (0, 11), (0, 12), (0, 13), (0, 14), (0, 15), (1, 16), (1, 17)]
  | 3 => [(1, 4), (0, 7), (0, 8), (0, 9), (0, 10), (0, 11), (0, 12), (0, 13), (0, 14), (0, 15)]
  | 4 => [(1, 18)]
  | 5 => [(0, 19), (1, 20), (1, 21), (0, 22)]
  | 6 => [(0, 23)]
  | 7 => [(1, 18)]
  | _ => []
def replySlots : List (Nat × Nat) := [(2, 0), (0, 1), (0, 2), (0, 3), (0, 4), (0, 5), (0, 6), (0, 7), (0, 8), (0, 9)]
def partOf (k p : Nat) : Bool := (slotsOf k).any fun s => s.2 == p
/-- A command with just what its kind has. -/
def ownC (k : Nat) (c : Nat → Int) : Nat → Int := fun i => if i = 0 then c 0 else if partOf k i = true then c i else 0

theorem slotV_one (q : Nat) (s : Nat × Nat) : (slotV q s).oneCell' = true := by
  unfold slotV
  split <;> rfl
theorem slots_one (q : Nat) (L : List (Nat × Nat)) : ∀ u ∈ L.map (slotV q), u.oneCell' = true := by
  intro u hu
  obtain ⟨s, _, rfl⟩ := List.mem_map.1 hu
  exact slotV_one q s

/-- Where what a command of a kind has is. -/
theorem cmd_parts (k q : Nat) (w : World) (k0 : 1 ≤ k) (k1 : k ≤ 7) (hk : w.cell? ⟨q, 0, none⟩ = some (.int .u8 (k : Int))) :
    Calls Tryd.prog 15 #[.pointer (some ⟨q, 0, none⟩)] w fun e w' => ∃ b c, e = .returned (.slice (some ⟨b, 0, none⟩) (slotsOf k).length c) ∧ w.heap.size ≤ b ∧ PieceAt w' b ((slotsOf k).map (slotV q)) ∧ Below w.heap.size w w' := by
  have own : ∀ {n : Nat} {xs : List Value} {P : Nat → World → Prop}, 0 < n → (∀ u ∈ xs, u.oneCell' = true) →
      (Calls Tryd.prog 15 #[.pointer (some ⟨q, 0, none⟩)] w fun e w' => ∃ v, e = .returned v ∧ w'.ownsRow w.heap.size 20 1 v n xs ∧ Below w.heap.size w w') →
      Calls Tryd.prog 15 #[.pointer (some ⟨q, 0, none⟩)] w fun e w' => ∃ b c, e = .returned (.slice (some ⟨b, 0, none⟩) n c) ∧ w.heap.size ≤ b ∧ PieceAt w' b xs ∧ Below w.heap.size w w' := by
    intro n xs _ hn h1 h
    refine h.mono ?_
    rintro e w' ⟨v, rfl, ho, hb⟩
    obtain ⟨b, c, rfl, hB, hp⟩ := PieceAt.own ho hn h1
    exact ⟨b, c, rfl, hB, hp, hb⟩
  rcases (show k = 1 ∨ k = 2 ∨ k = 3 ∨ k = 4 ∨ k = 5 ∨ k = 6 ∨ k = 7 by omega) with rfl | rfl | rfl | rfl | rfl | rfl | rfl
  · exact (cmd_parts_config q w hk).mono fun e w' ⟨h1, h2, h3⟩ => ⟨_, _, h1, Nat.le_refl _, PieceAt.blk h2 rfl (slots_one q _), h3⟩
  · exact own (P := fun _ _ => True) (by decide) (slots_one q _) (cmd_parts_add q w hk)
  · exact own (P := fun _ _ => True) (by decide) (slots_one q _) (cmd_parts_change q w hk)
  · exact (cmd_parts_delete q w hk).mono fun e w' ⟨h1, h2, h3⟩ => ⟨_, _, h1, Nat.le_refl _, PieceAt.blk h2 rfl (slots_one q _), h3⟩
  · exact (cmd_parts_arrive q w hk).mono fun e w' ⟨h1, h2, h3⟩ => ⟨_, _, h1, Nat.le_refl _, PieceAt.blk h2 rfl (slots_one q _), h3⟩
  · exact (cmd_parts_advance q w hk).mono fun e w' ⟨h1, h2, h3⟩ => ⟨_, _, h1, Nat.le_refl _, PieceAt.blk h2 rfl (slots_one q _), h3⟩
  · exact (cmd_parts_ask q w hk).mono fun e w' ⟨h1, h2, h3⟩ => ⟨_, _, h1, Nat.le_refl _, PieceAt.blk h2 rfl (slots_one q _), h3⟩

end Go.Proofs.YtjhffbhjiflfeaaDoor
