/-
  The document's bytes of numbers; a thing written.
-/
import Derived.Test.YtjhffbhjiflfeaaDoorProg
import Derived.Test.YtjhffbhjiflfeaaDoorOctE
import Derived.Laws.Concat
namespace Go.Proofs.YtjhffbhjiflfeaaDoor
set_option linter.unusedVariables false
set_option linter.unusedSimpArgs false
set_option maxRecDepth 100000
open Go.RowKit

/-- 'string([]byte(x))' of one byte that was just laid. -/
theorem conv_one (x : Int) (h0 : 0 ≤ x) (h1 : x < 256) (W : World) : (convert 68 9 (.slice (some ⟨W.heap.size, 0, none⟩) 1 1)).run Tryd.prog (W.alloc (.cells #[.int .u8 x] 5)) = .ok (.string (bs [x.toNat])) (W.alloc (.cells #[.int .u8 x] 5)) := by
  have := run_convert_bytes_back (P := Tryd.prog) (W.alloc (.cells #[.int .u8 x] 5)) 68 9 5 ⟨W.heap.size, 0, none⟩ 1 [UInt8.ofNat x.toNat] Tryd.underlying68 (by kernel_rfl) (by kernel_rfl) (fun j hj => by
    have hj0 : j = 0 := by simp at hj; omega
    subst hj0
    have : (x.toNat : Int) = x := Int.toNat_of_nonneg h0
    simp [Addr.add]
    omega)
  exact this

theorem conv_cell (x : Int) (h0 : 0 ≤ x) (h1 : x < 256) : ∀ (W : World) (k : Nat), W.cell? ⟨k, 0, none⟩ = some (.int .u8 x) → (convert 68 9 (.slice (some ⟨k, 0, none⟩) 1 1)).run Tryd.prog W = .ok (.string (bs [x.toNat])) W := by
  intro W k hc
  have := run_convert_bytes_back (P := Tryd.prog) W 68 9 5 ⟨k, 0, none⟩ 1 [UInt8.ofNat x.toNat] Tryd.underlying68 (by kernel_rfl) (by kernel_rfl) (fun j hj => by
    have hj0 : j = 0 := by simp at hj; omega
    subst hj0
    have e : (x.toNat : Int) = x := Int.toNat_of_nonneg h0
    have e0 : (⟨k, 0, none⟩ : Addr).add 0 = ⟨k, 0, none⟩ := by simp [Addr.add]
    rw [e0, hc]
    simp
    omega)
  exact this

/-- '+' of two strings that are not long. -/
theorem add_bs (l m : List Nat) (h : l.length + m.length ≤ 100000000000000) (W : World) : (Op.stringOp .add (bs l) (bs m)).run Tryd.prog W = .ok (.string (bs (l ++ m))) W := by
  rw [bs_append]
  exact run_string_add_sum (P := Tryd.prog) W _ _ (by rw [bs_size, bs_size]; omega)

/-! ### Things -/
/-- A thing's bytes. -/
def thingB (k n : Int) : List Nat := if k % 4 = 0 then [(n % 256).toNat] else if k % 4 = 1 then numB n.toNat else if k % 4 = 2 then numB (zz (IntKind.i64.wrap n)).toNat else [flagB (decide (n % 2 = 1))]
theorem i64_range (n : Int) : -9223372036854775808 ≤ IntKind.i64.wrap n ∧ IntKind.i64.wrap n ≤ 9223372036854775807 := by rw [IntKind.wrap_i64]; omega
theorem thingB_len (k n : Int) (h : Word n) : (thingB k n).length ≤ 10 := by
  unfold thingB
  split
  · simp
  · split
    · exact numB_ten (by have := h.2; have := h.1; omega)
    · split
      · have := zz_word (i64_range n).1 (i64_range n).2
        obtain ⟨z0, z1⟩ := this; exact numB_ten (by omega)
      · simp
theorem thingB_bytes (k n : Int) : Bytes (thingB k n) := by
  unfold thingB
  split
  · exact bytes_one (by omega)
  · split
    · exact bytes_num _
    · split
      · exact bytes_num _
      · exact bytes_one (by unfold flagB; split <;> omega)

end Go.Proofs.YtjhffbhjiflfeaaDoor
