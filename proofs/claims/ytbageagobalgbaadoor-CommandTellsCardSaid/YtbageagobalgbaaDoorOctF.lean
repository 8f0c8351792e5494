/-
  The document's bytes of numbers; a thing written.
-/
import Derived.Test.YtbageagobalgbaaDoorProg
import Derived.Test.YtbageagobalgbaaDoorOctE
import Derived.Laws.Concat
namespace Go.Proofs.YtbageagobalgbaaDoor
set_option linter.unusedVariables false
set_option linter.unusedSimpArgs false
set_option maxRecDepth 100000
open Go.RowKit

/-- 'string([]byte(x))' of one byte that was just laid. -/
theorem conv_one (x : Int) (h0 : 0 ≤ x) (h1 : x < 256) (W : World) : (convert 57 9 (.slice (some ⟨W.heap.size, 0, none⟩) 1 1)).run Tryd.prog (W.alloc (.cells #[.int .u8 x] 5)) = .ok (.string (bs [x.toNat])) (W.alloc (.cells #[.int .u8 x] 5)) := by
  have := run_convert_bytes_back (P := Tryd.prog) (W.alloc (.cells #[.int .u8 x] 5)) 57 9 5 ⟨W.heap.size, 0, none⟩ 1 [UInt8.ofNat x.toNat] Tryd.underlying57 (by kernel_rfl) (by kernel_rfl) (fun j hj => by
    have hj0 : j = 0 := by simp at hj; omega
    subst hj0
    have : (x.toNat : Int) = x := Int.toNat_of_nonneg h0
    simp [Addr.add]
    omega)
  exact this

theorem conv_cell (x : Int) (h0 : 0 ≤ x) (h1 : x < 256) : ∀ (W : World) (k : Nat), W.cell? ⟨k, 0, none⟩ = some (.int .u8 x) → (convert 57 9 (.slice (some ⟨k, 0, none⟩) 1 1)).run Tryd.prog W = .ok (.string (bs [x.toNat])) W := by
  intro W k hc
  have := run_convert_bytes_back (P := Tryd.prog) W 57 9 5 ⟨k, 0, none⟩ 1 [UInt8.ofNat x.toNat] Tryd.underlying57 (by kernel_rfl) (by kernel_rfl) (fun j hj => by
    have hj0 : j = 0 := by simp at hj; omega
    subst hj0
    have e : (x.toNat : Int) = x := Int.toNat_of_nonneg h0
    have e0 : (⟨k, 0, none⟩ : Addr).add 0 = ⟨k, 0, none⟩ := by simp [Addr.add]
    rw [e0, hc]
    simp
    omega)
  exact this

/-- '+' of two strings that are not long. -/
theorem add_bs (l m : List Nat) (h : l.length + m.length ≤ 100000000000000) (W : World) : (Op.stringOp .add (bs l) (bs m)).run Tryd.prog W = .ok (.string (bs (l ++ m))) W := by
  rw [bs_append]
  exact run_string_add_sum (P := Tryd.prog) W _ _ (by rw [bs_size, bs_size]; omega)

theorem refNum (n : Nat) : ∀ w : World, n < 18446744073709551616 → Calls Tryd.prog 19 #[.int .u64 n] w fun e w' => e = .returned (.string (bs (numB n))) ∧ Below w.heap.size w w' := by
  induction n using Nat.strongRecOn with
  | _ n ih =>
    intro w hn
    by_cases hlt : n < 128
    · have e1 : IntKind.u8.wrap (n : Int) = n := by rw [IntKind.wrap_u8]; omega
      have cv := conv_one (n : Int) (by omega) (by omega)
      rw [Int.toNat_natCast] at cv
      have R := Lib.hid (numB_small hlt)
      go_enter Tryd.func19, Tryd.ntmps19
      go_wp2_with fail
      go_ret
      exact ⟨by rw [R.out]; rfl, by go_grown⟩
    · have cw := conv_cell (128 + (n : Int) % 128) (by omega) (by omega)
      have I := Lib.hid (fun w => ih (n / 128) (by omega) w (by omega))
      have e0 : (((n / 128 : Nat) : Int)) = (n : Int) / 128 := by omega
      have hid : Hid (∀ w, Calls Tryd.prog 19 #[.int .u64 ((n : Int) / 128)] w fun e w' => e = .returned (.string (bs (numB (n / 128)))) ∧ Below w.heap.size w w') := by
        intro w; rw [← e0]; exact I.out w
      have e1 : IntKind.u8.wrap ((n : Int) % 128) = (n : Int) % 128 := by rw [IntKind.wrap_u8]; omega
      have e2 : (128 + (n : Int) % 128).toNat = 128 + n % 128 := by omega
      rw [e2] at cw
      have R := Lib.hid (numB_more (n := n) (by omega))
      have t1 : (n : Int).tmod 128 = (n : Int) % 128 := Int.tmod_eq_emod_of_nonneg (by omega)
      have t2 : IntKind.u8.wrap (128 + (n : Int) % 128) = 128 + (n : Int) % 128 := by rw [IntKind.wrap_u8]; omega
      have t3 : IntKind.u64.wrap ((n : Int) / 128) = (n : Int) / 128 := by rw [IntKind.wrap_u64]; omega
      have t4 := fun W => add_bs [128 + n % 128] (numB (n / 128)) (by have := numB_ten (n := n / 128) (by omega); simp; omega) W
      clear ih I e0 e2
      go_enter Tryd.func19, Tryd.ntmps19
      go_wp2_with fail
      go_region_with (go_at_call 19; refine (hid.out _).mono ?_; rintro e w1 ⟨rfl, hb1⟩; have HB := Lib.hid hb1; first | (have hc1 := (hb1.cell (p := ⟨w.heap.size, 0, none⟩) (by simp)).trans (World.cell?_alloc_new _ _ _ _); simp only [List.getElem?_toArray, List.getElem?_cons_zero] at hc1; clear hb1) | clear hb1)
      all_goals
        go_wp2_with fail
        go_ret
        refine ⟨?_, by first | exact below_next (by go_grown) HB.out | exact below_next (below_next (by go_grown) HB.out) (by go_grown)⟩
        rw [R.out]
        rfl
theorem refNum_any (n : Int) (w : World) (h : Word n) : Calls Tryd.prog 19 #[.int .u64 n] w fun e w' => e = .returned (.string (bs (numB n.toNat))) ∧ Below w.heap.size w w' := by
  obtain ⟨m, rfl⟩ := Int.eq_ofNat_of_zero_le h.1
  rw [Int.toNat_natCast]
  exact refNum m w (by have := h.2; omega)
theorem refInt_any (n : Int) (w : World) (n0 : -9223372036854775808 ≤ n) (n1 : n ≤ 9223372036854775807) : Calls Tryd.prog 20 #[.int .i64 n] w fun e w' => e = .returned (.string (bs (numB (zz n).toNat))) ∧ Below w.heap.size w w' := by
  by_cases h : 0 ≤ n
  · have e : zz n = 2 * n := by unfold zz; rw [if_pos h]
    have I := Lib.hid (fun w => refNum_any (2 * n) w ⟨by omega, by omega⟩)
    rw [e]
    clear e
    go_enter Tryd.func20, Tryd.ntmps20
    go_wp2_with fail
    with_reducible refine (I.out _).mono ?_
    rintro e w1 ⟨rfl, hb1⟩
    go_wp2_with fail
    go_ret
    exact ⟨rfl, hb1⟩
  · have e : zz n = 2 * (-(n + 1)) + 1 := by unfold zz; rw [if_neg h]; omega
    obtain ⟨m, hm⟩ : ∃ m, -(n + 1) = m := ⟨_, rfl⟩
    rw [hm] at e
    have m0 : 0 ≤ m := by omega
    have m1 : m ≤ 9223372036854775807 := by omega
    have I := Lib.hid (fun w => refNum_any (2 * m + 1) w ⟨by omega, by omega⟩)
    rw [e]
    clear e
    go_enter Tryd.func20, Tryd.ntmps20
    go_wp2_with fail
    with_reducible refine (I.out _).mono ?_
    rintro e w1 ⟨rfl, hb1⟩
    go_wp2_with fail
    go_ret
    exact ⟨rfl, hb1⟩
theorem refFlag_any (b : Bool) (w : World) : Calls Tryd.prog 21 #[.bool b] w fun e w' => e = .returned (.string (bs [flagB b])) ∧ w = w' := by
  cases b with
  | true =>
    go_enter Tryd.func21, Tryd.ntmps21
    go_wp2_with fail
    go_ret
    exact ⟨rfl, rfl⟩
  | false =>
    go_enter Tryd.func21, Tryd.ntmps21
    go_wp2_with fail
    go_ret
    exact ⟨rfl, rfl⟩

/-! ### Things -/
/-- A thing's bytes. -/
def thingB (k n : Int) : List Nat := if k % 4 = 0 then [(n % 256).toNat] else if k % 4 = 1 then numB n.toNat else if k % 4 = 2 then numB (zz (IntKind.i64.wrap n)).toNat else [flagB (decide (n % 2 = 1))]
theorem i64_range (n : Int) : -9223372036854775808 ≤ IntKind.i64.wrap n ∧ IntKind.i64.wrap n ≤ 9223372036854775807 := by rw [IntKind.wrap_i64]; omega
theorem thingB_len (k n : Int) (h : Word n) : (thingB k n).length ≤ 10 := by
  unfold thingB
  split
  · simp
  · split
    · exact numB_ten (by have := h.2; have := h.1; omega)
    · split
      · have := zz_word (i64_range n).1 (i64_range n).2
        obtain ⟨z0, z1⟩ := this; exact numB_ten (by omega)
      · simp
theorem thingB_bytes (k n : Int) : Bytes (thingB k n) := by
  unfold thingB
  split
  · exact bytes_one (by omega)
  · split
    · exact bytes_num _
    · split
      · exact bytes_num _
      · exact bytes_one (by unfold flagB; split <;> omega)

end Go.Proofs.YtbageagobalgbaaDoor
