/-
  Things written one behind the other; a thing read.
-/
import Derived.Test.YtjhffbhjiflfeaaDoorProg
import Derived.Test.YtjhffbhjiflfeaaDoorOctF
namespace Go.Proofs.YtjhffbhjiflfeaaDoor
set_option linter.unusedVariables false
set_option linter.unusedSimpArgs false
set_option maxRecDepth 100000
open Go.RowKit

/-- The bytes of the first m things. -/
def upto (K N : Nat → Int) : Nat → List Nat
  | 0 => []
  | m + 1 => upto K N m ++ thingB (K m) (N m)
theorem upto_len (K N : Nat → Int) (n : Nat) (h : ∀ i, i < n → Word (N i)) : ∀ m, m ≤ n → (upto K N m).length ≤ 10 * m := by
  intro m
  induction m with
  | zero => intro _; simp [upto]
  | succ m ih =>
    intro hm
    have a := ih (by omega)
    have b := thingB_len (K m) (N m) (h m (by omega))
    rw [upto, List.length_append]
    omega
theorem thingB0 {k n : Int} (h : k % 4 = 0) : thingB k n = [(n % 256).toNat] := by unfold thingB; rw [if_pos h]
theorem thingB1 {k n : Int} (h : k % 4 = 1) : thingB k n = numB n.toNat := by unfold thingB; rw [if_neg (by omega), if_pos h]
theorem thingB2 {k n : Int} (h : k % 4 = 2) : thingB k n = numB (zz (IntKind.i64.wrap n)).toNat := by unfold thingB; rw [if_neg (by omega), if_neg (by omega), if_pos h]
theorem thingB3 {k n : Int} (h : k % 4 = 3) : thingB k n = [flagB (decide (n % 2 = 1))] := by unfold thingB; rw [if_neg (by omega), if_neg (by omega), if_neg (by omega)]
/-- The bytes of so many things from the i-th on. -/
def rest (K N : Nat → Int) : Nat → Nat → List Nat
  | 0, _ => []
  | c + 1, i => thingB (K i) (N i) ++ rest K N c (i + 1)
theorem upto_rest (K N : Nat → Int) : ∀ c i, upto K N (i + c) = upto K N i ++ rest K N c i := by
  intro c
  induction c with
  | zero => intro i; simp [rest]
  | succ c ih =>
    intro i
    rw [rest, show i + (c + 1) = (i + 1) + c by omega, ih (i + 1), upto, List.append_assoc]
theorem upto_all (K N : Nat → Int) (n : Nat) : upto K N n = rest K N n 0 := by
  have := upto_rest K N n 0
  simpa [upto] using this
theorem upto_bytes (K N : Nat → Int) : ∀ m, Bytes (upto K N m) := by
  intro m
  induction m with
  | zero => intro x hx; cases hx
  | succ m ih => exact ih.app (thingB_bytes _ _)

/-! ### A thing read -/
def readB (k n : Int) (l : List Nat) : Bool := if k % 4 = 0 then ((byteR l : Nat) : Int) == n % 256 else if k % 4 = 1 then ((numR l : Nat) : Int) == n else if k % 4 = 2 then unz (numR l) == IntKind.i64.wrap n else flagR l == (n % 2 == 1)
def readL (k : Int) (l : List Nat) : List Nat := if k % 4 = 0 then byteL l else if k % 4 = 1 then numL l else if k % 4 = 2 then numL l else flagL l
def readF (k : Int) (l : List Nat) (f : Bool) : Bool := if k % 4 = 0 then byteF l f else if k % 4 = 1 then numF l else if k % 4 = 2 then numF l else flagF l f
end Go.Proofs.YtjhffbhjiflfeaaDoor
