/-
  Rows of keys and values: the first whose value is at most a number; those up to a number.
-/
import Derived.Test.YtjlnbpomncglcaaRBList
namespace Go.Proofs.Ytjlnbpomncglcaa
set_option linter.unusedVariables false
set_option linter.unusedSimpArgs false

/-- Is a row's value at most m? -/
def anyTo (m : Int) (L : Row) : Bool := L.any fun p => decide (p.2 ≤ m)
/-- The first whose value is at most m. -/
def findTo (m : Int) (L : Row) : Option RK := (L.find? fun p => decide (p.2 ≤ m)).map (·.1)
theorem findTo_left {m : Int} {A B : Row} (h : anyTo m A = true) : findTo m (A ++ B) = findTo m A := by
  unfold findTo
  rw [List.find?_append]
  obtain ⟨x, hx, hm⟩ := List.any_eq_true.1 h
  cases e : A.find? (fun p => decide (p.2 ≤ m)) with
  | none => exact absurd hm (List.find?_eq_none.1 e x hx)
  | some y => rfl
theorem findTo_right {m : Int} {A B : Row} (h : anyTo m A = false) : findTo m (A ++ B) = findTo m B := by
  unfold findTo
  rw [List.find?_append, List.find?_eq_none.2 (fun x hx => List.any_eq_false.1 h x hx)]
  rfl
theorem findTo_here {m : Int} {p : RK × Int} {B : Row} (h : p.2 ≤ m) : findTo m (p :: B) = some p.1 := by simp [findTo, h]
theorem findTo_not {m : Int} {p : RK × Int} {B : Row} (h : ¬ p.2 ≤ m) : findTo m (p :: B) = findTo m B := by simp [findTo, h]
theorem findTo_nil (m : Int) : findTo m [] = none := rfl
/-- Those up to a number. -/
def upTo (n : Int) (L : Row) : Row := L.filter fun p => decide (p.1.1 ≤ n)
theorem upTo_all {n : Int} {A : Row} (h : ∀ a ∈ A, a.1.1 ≤ n) : upTo n A = A := List.filter_eq_self.2 fun a ha => decide_eq_true (h a ha)
theorem upTo_none {n : Int} {A : Row} (h : ∀ a ∈ A, n < a.1.1) : upTo n A = [] := List.filter_eq_nil_iff.2 fun a ha => by have := h a ha; simp; omega
theorem upTo_append (n : Int) (A B : Row) : upTo n (A ++ B) = upTo n A ++ upTo n B := List.filter_append ..
theorem upTo_left {n : Int} {p : RK × Int} {A B : Row} (hR : Rises (A ++ p :: B)) (h : n < p.1.1) : upTo n (A ++ p :: B) = upTo n A := by
  have hm := hR.mid
  have h2 : upTo n (p :: B) = [] := upTo_none fun a ha => by
    rcases List.mem_cons.1 ha with rfl | ha
    · exact h
    · have := klt_iff.1 (hm.2.1 a ha); omega
  rw [upTo_append, h2, List.append_nil]
theorem upTo_right {n : Int} {p : RK × Int} {A B : Row} (hR : Rises (A ++ p :: B)) (h : ¬ n < p.1.1) : upTo n (A ++ p :: B) = A ++ p :: upTo n B := by
  have hm := hR.mid
  rw [upTo_append, upTo_all (A := A) fun a ha => by have := klt_iff.1 (hm.1 a ha); omega]
  congr 1
  unfold upTo
  rw [List.filter_cons, if_pos (by simp; omega)]

end Go.Proofs.Ytjlnbpomncglcaa
