/-
  Less, and more, than what is told: plain law.
-/
import Derived.Test.YtjhffbhjiflfeaaDoorProg
import Derived.Test.YtjhffbhjiflfeaaDoorCmdLaw
namespace Go.Proofs.YtjhffbhjiflfeaaDoor
set_option linter.unusedVariables false
set_option linter.unusedSimpArgs false
set_option maxRecDepth 100000
open Go.RowKit

theorem bytes_part {l m : List Nat} (h : Bytes (l ++ m)) : Bytes m := fun x hx => h x (List.mem_append.2 (Or.inr hx))
theorem told_ext {l r : List Nat} {C D : Nat → Int} {k j : Nat} (h : Told l C k) (g : Told (l ++ r) D j) (hr : Bytes r) : r = [] := by
  have e := g.bytes
  rw [h.bytes, List.cons_append] at e
  injection e with e1 e2
  obtain rfl : k = j := e1
  exact encs_free (ty := cmdT) (n := 24) (c := C) (d := D) hr (slots_in k) h.fits g.fits e2.symm
theorem rtold_ext {l r : List Nat} {C D : Nat → Int} (h : RTold l C) (g : RTold (l ++ r) D) (hr : Bytes r) : r = [] := by
  have e := g.bytes
  rw [h.bytes, List.cons_append] at e
  injection e with _ e2
  exact encs_free (ty := replyT) (n := 10) (c := C) (d := D) hr reply_in h.fits g.fits e2.symm
theorem told_head {l : List Nat} {C : Nat → Int} {k : Nat} (h : Told l C k) : ∃ t, l = k :: t ∧ 1 ≤ k := ⟨_, h.bytes, h.k0⟩
theorem rtold_head {l : List Nat} {C : Nat → Int} (h : RTold l C) : ∃ t, l = 0 :: t := ⟨_, h.bytes⟩
theorem told_not_r {l r : List Nat} {C D : Nat → Int} {k : Nat} (h : Told l C k) (g : RTold (l ++ r) D) : False := by
  obtain ⟨t, rfl, hk⟩ := told_head h
  obtain ⟨u, e⟩ := rtold_head g
  rw [List.cons_append] at e
  injection e with e _
  omega
theorem r_not_told {l r : List Nat} {C D : Nat → Int} {k : Nat} (h : RTold l C) (g : Told (l ++ r) D k) : False := by
  obtain ⟨t, rfl⟩ := rtold_head h
  obtain ⟨u, e, hk⟩ := told_head g
  rw [List.cons_append] at e
  injection e with e _
  omega
/-- Bytes that are no command's and no reply's. -/
def Nobody (l : List Nat) : Prop := (¬ ∃ C k, Told l C k) ∧ ¬ ∃ C, RTold l C
theorem told_cut {l : List Nat} {C : Nat → Int} {k : Nat} (h : Told l C k) (m : Nat) (hm : m < l.length) : Nobody (l.take m) := by
  have e : l.take m ++ l.drop m = l := List.take_append_drop m l
  have hb : Bytes (l.drop m) := bytes_part (l := l.take m) (by rw [e]; exact h.isBytes)
  have hd : l.drop m ≠ [] := by
    intro h0
    have := congrArg List.length h0
    rw [List.length_drop] at this
    simp at this
    omega
  refine ⟨?_, ?_⟩
  · rintro ⟨D, j, g⟩
    exact hd (told_ext (r := l.drop m) g (by rw [e]; exact h) hb)
  · rintro ⟨D, g⟩
    exact r_not_told (r := l.drop m) g (by rw [e]; exact h)
theorem rtold_cut {l : List Nat} {C : Nat → Int} (h : RTold l C) (m : Nat) (hm : m < l.length) : Nobody (l.take m) := by
  have e : l.take m ++ l.drop m = l := List.take_append_drop m l
  have hb : Bytes (l.drop m) := bytes_part (l := l.take m) (by rw [e]; exact h.isBytes)
  have hd : l.drop m ≠ [] := by
    intro h0
    have := congrArg List.length h0
    rw [List.length_drop] at this
    simp at this
    omega
  refine ⟨?_, ?_⟩
  · rintro ⟨D, j, g⟩
    exact told_not_r (r := l.drop m) g (by rw [e]; exact h)
  · rintro ⟨D, g⟩
    exact hd (rtold_ext (r := l.drop m) g (by rw [e]; exact h) hb)
theorem told_more {l : List Nat} {C : Nat → Int} {k : Nat} (h : Told l C k) (x : Nat) (hx : x < 256) : Nobody (l ++ [x]) :=
  ⟨fun ⟨_, _, g⟩ => absurd (told_ext h g (bytes_one hx)) (List.cons_ne_nil _ _), fun ⟨_, g⟩ => told_not_r h g⟩
theorem rtold_more {l : List Nat} {C : Nat → Int} (h : RTold l C) (x : Nat) (hx : x < 256) : Nobody (l ++ [x]) :=
  ⟨fun ⟨_, _, g⟩ => r_not_told h g, fun ⟨_, g⟩ => absurd (rtold_ext h g (bytes_one hx)) (List.cons_ne_nil _ _)⟩
theorem told_r {l : List Nat} {C : Nat → Int} {k : Nat} (h : Told l C k) : ¬ ∃ C, RTold l C := fun ⟨_, g⟩ => told_not_r (r := []) h (by rw [List.append_nil]; exact g)
theorem r_told {l : List Nat} {C : Nat → Int} (h : RTold l C) : ¬ ∃ C k, Told l C k := fun ⟨_, _, g⟩ => r_not_told (r := []) h (by rw [List.append_nil]; exact g)
theorem Nobody.read {l : List Nat} (h : Nobody l) (hb : Bytes l) (w : World) : Calls Tryd.prog 10 #[.string (bs l)] w fun e w' => e = .returned (.tuple #[.agg (rowA cmdT 24 fun _ => 0), .int .i64 140]) ∧ Below w.heap.size w w' := read_else w hb h.1
theorem Nobody.rread {l : List Nat} (h : Nobody l) (hb : Bytes l) (w : World) : Calls Tryd.prog 11 #[.string (bs l)] w fun e w' => e = .returned (.tuple #[.agg (rowA replyT 10 fun _ => 0), .int .i64 140]) ∧ Below w.heap.size w w' := rread_else w hb h.2
/-- What is told of bytes is told of it. -/
theorem Told.tell {l : List Nat} {C : Nat → Int} {k : Nat} (h : Told l C k) (w : World) : Calls Tryd.prog 6 #[.agg (rowA cmdT 24 C)] w fun e w' => e = .returned (.tuple #[.string (bs l), .int .i64 0]) ∧ Below w.heap.size w w' := by
  rw [h.bytes]
  exact cmd_command_ok C k w h.zero h.k0 h.k1 h.fits (fits_own h.fits) h.own
theorem RTold.tell {l : List Nat} {C : Nat → Int} (h : RTold l C) (w : World) : Calls Tryd.prog 9 #[.agg (rowA replyT 10 C)] w fun e w' => e = .returned (.tuple #[.string (bs l), .int .i64 0]) ∧ Below w.heap.size w w' := by
  rw [h.bytes]
  exact cmd_reply C w h.fits
theorem fitZc : Fits cmdT 24 fun _ => 0 := fits_small fun i hi => ⟨by decide, by decide, fun _ => by decide, fun _ => rfl⟩
/-- Which place a cut is at. -/
theorem cut_parts (some : Int) (n : Nat) (h0 : 0 < n) (h1 : n ≤ 500) : ∃ (f : Int) (m : Nat), IntKind.u64.wrap some = f ∧ 0 ≤ f ∧ f % (n : Int) = (m : Int) ∧ f.tmod (n : Int) = (m : Int) ∧ m < n := by
  have hf0 : 0 ≤ IntKind.u64.wrap some := by rw [IntKind.wrap_u64]; omega
  generalize IntKind.u64.wrap some = f at hf0
  have e1 := Int.emod_nonneg f (show (n : Int) ≠ 0 by omega)
  have e2 := Int.emod_lt_of_pos f (show (0 : Int) < (n : Int) by omega)
  refine ⟨f, (f % (n : Int)).toNat, rfl, hf0, by omega, ?_, by omega⟩
  rw [Int.tmod_eq_emod_of_nonneg hf0]
  omega
theorem ne_nat {n : Nat} (h : 0 < n) : ¬ (n : Int) = 0 := by omega
theorem byte_nat {x : Int} (h0 : 0 ≤ x) (h1 : x < 256) : x.toNat < 256 := by omega
theorem add_room {l : List Nat} {x : Nat} (h : l.length ≤ 500) : l.length + [x].length ≤ 100000000000000 := by simp; omega
theorem u64_nat {n : Nat} (h : n ≤ 500) : IntKind.u64.wrap (n : Int) = (n : Int) := by rw [IntKind.wrap_u64]; omega
theorem w64_nat {n : Nat} (h : n ≤ 500) : wrap64 (n : Int) = (n : Int) := by unfold wrap64; omega
/-- What is compared with nothing. -/
theorem eqZ (w : World) : (Op.equalIn 10000 32 (.agg (rowA cmdT 24 fun _ => 0)) (.agg #[.int .u8 0, .int .u64 0, .int .i64 0, .int .u64 0, .int .i64 0, .int .i64 0, .bool false, .int .u64 0, .int .u64 0, .int .u64 0, .int .u64 0, .int .u64 0, .int .u64 0, .int .u64 0, .int .u64 0, .int .u64 0, .int .i64 0, .int .i64 0, .int .i64 0, .int .u64 0, .int .i64 0, .int .i64 0, .int .u64 0, .int .u64 0])).run Tryd.prog w = .ok (false != true) w :=
  eq_cmd (fun _ => 0) (fun _ => 0) fitZc fitZc w
theorem eqZr (w : World) : (Op.equalIn 10000 47 (.agg (rowA replyT 10 fun _ => 0)) (.agg #[.int .i64 0, .int .u64 0, .int .u64 0, .int .u64 0, .int .u64 0, .int .u64 0, .int .u64 0, .int .u64 0, .int .u64 0, .int .u64 0])).run Tryd.prog w = .ok (false != true) w :=
  eq_reply (fun _ => 0) (fun _ => 0) w

end Go.Proofs.YtjhffbhjiflfeaaDoor
