/-
  Red-black trees in memory (u): those that nobody made.
-/
import Derived.Test.YtjlnbpomncglcaaProg
import Derived.Test.YtjlnbpomncglcaaRBUW
import Derived.Test.YtjlnbpomncglcaaRBUX
import Derived.Test.YtjlnbpomncglcaaRBUZ
namespace Go.Proofs.Ytjlnbpomncglcaa
set_option linter.unusedVariables false
set_option linter.unusedSimpArgs false
set_option maxRecDepth 100000
open Go.RowKit Go.Shelf

attribute [local go_sem] Oper.semAt_some

section
variable {P : Program} {w : World} {ps rs : Array TypeId} {v : Bool}
theorem equalIn_nn (d : Nat) (t : TypeId) (h : P.underlying t = some (.func ps rs v)) : (Op.equalIn (d + 1) t .nilFunc .nilFunc).run P w = .ok true w := by simp [Op.equalIn, run_underlying h]
theorem equal_nn (t : TypeId) (h : P.underlying t = some (.func ps rs v)) : (Op.equal t .nilFunc .nilFunc).run P w = .ok true w := equalIn_nn 9999 t h
theorem eql_nn (t : TypeId) (h : P.underlying t = some (.func ps rs v)) : (binOp .eql t .nilFunc .nilFunc).run P w = .ok (.bool true) w := by
  simp only [binOp]
  simp [equal_nn t h]
end
/-- Nobody made the tree. -/
def NoU (w : World) (p : Value) : Prop := p = .pointer none ∨ ∃ T, p = .pointer (some ⟨T, 0, none⟩) ∧ Blk w T 69 #[.nilFunc, .nilFunc, .pointer none, .int .i64 0]
theorem NoU.one {w : World} {p : Value} (h : NoU w p) : p.oneCell' = true := by
  rcases h with rfl | ⟨T, rfl, -⟩ <;> rfl
theorem NoU.next {w w' : World} {p : Value} (h : NoU w p) (hb : Below w.heap.size w w') : NoU w' p := h.imp id fun ⟨T, e, b⟩ => ⟨T, e, b.next hb⟩
theorem NoU.stays {w w' : World} {p : Value} {B : Nat} (h : NoU w p) (hs : Stays B w w') : NoU w' p := h.imp id fun ⟨T, e, b⟩ => ⟨T, e, b.stays hs⟩
theorem nou_none (p : Value) (w : World) (h : NoU w p) : Calls Try.prog 60 #[p] w fun e w' => e = .returned (.bool true) ∧ w = w' := by
  rcases h with rfl | ⟨T, rfl, hb⟩
  · go_enter Try.func60, Try.ntmps60
    go_wp2
    go_ret
    exact ⟨rfl, rfl⟩
  · have c0 := hb.get 0 rfl
    have q := fun w => eql_nn (P := Try.prog) (w := w) 65 Try.underlying65
    clear hb
    go_enter Try.func60, Try.ntmps60
    go_wp2
    go_ret
    exact ⟨rfl, rfl⟩
theorem nou_at (p : Value) (k : RK) (w : World) (h : NoU w p) : Calls Try.prog 61 #[p, .agg #[.int .u64 k.1, .int .i64 k.2]] w fun e w' => e = .returned (.pointer none) ∧ Below w.heap.size w w' := by
  have H := Lib.hid h
  have h1 := h.one
  clear h
  go_enter Try.func61, Try.ntmps61
  go_wp2_with fail
  with_reducible refine (nou_none p _ (H.out.next (by go_grown))).mono ?_
  rintro e w1 ⟨rfl, rfl⟩
  go_wp2
  go_ret
  exact ⟨by simp, by go_grown⟩
theorem nou_put (p : Value) (k : RK) (v : Int) (w : World) (h : NoU w p) : Calls Try.prog 19 #[p, .agg #[.int .u64 k.1, .int .i64 k.2], .int .u64 v] w fun e w' => e = .returned (.int .i64 1) ∧ Below w.heap.size w w' := by
  have H := Lib.hid h
  have h1 := h.one
  clear h
  go_enter Try.func19, Try.ntmps19
  go_wp2_with fail
  with_reducible refine (nou_none p _ (H.out.next (by go_grown))).mono ?_
  rintro e w1 ⟨rfl, rfl⟩
  go_wp2
  go_ret
  exact ⟨by simp, by go_grown⟩
theorem nou_drop (p : Value) (k : RK) (w : World) (h : NoU w p) : Calls Try.prog 17 #[p, .agg #[.int .u64 k.1, .int .i64 k.2]] w fun e w' => e = .returned (.int .i64 1) ∧ Below w.heap.size w w' := by
  have H := Lib.hid h
  have h1 := h.one
  clear h
  go_enter Try.func17, Try.ntmps17
  go_wp2_with fail
  with_reducible refine (nou_none p _ (H.out.next (by go_grown))).mono ?_
  rintro e w1 ⟨rfl, rfl⟩
  go_wp2
  go_ret
  exact ⟨by simp, by go_grown⟩
theorem nou_get (p : Value) (k : RK) (w : World) (h : NoU w p) : Calls Try.prog 29 #[p, .agg #[.int .u64 k.1, .int .i64 k.2]] w fun e w' => e = .returned (.tuple #[.int .u64 0, .bool false]) ∧ Below w.heap.size w w' := by
  have H := Lib.hid h
  clear h
  go_enter Try.func29, Try.ntmps29
  go_upto_region 1 with (fail)
  obtain ⟨w0, hw0⟩ : ∃ x, w.alloc (.cells #[.int .u64 k.1, .int .i64 k.2] 31) = x := ⟨_, rfl⟩
  have hb0 : Below w.heap.size w w0 := by rw [← hw0]; go_grown
  have kb : Blk w0 w.heap.size 31 #[.int .u64 k.1, .int .i64 k.2] := by rw [← hw0]; exact Blk.new w _ _
  rw [hw0]
  have HB0 := Lib.hid hb0
  have x0 := kb.get 0 rfl
  have x1 := kb.get 1 rfl
  clear hw0 hb0 kb
  go_wp2_with fail
  with_reducible refine (nou_at p k w0 (H.out.next HB0.out)).mono ?_
  rintro e w1 ⟨rfl, hb⟩
  have HB1 := Lib.hid (below_next HB0.out hb)
  clear hb x0 x1
  go_wp2
  go_ret2
  exact ⟨rfl, HB1.out⟩
theorem nou_len (p : Value) (w : World) (h : NoU w p) : Calls Try.prog 36 #[p] w fun e w' => e = .returned (.int .i64 0) ∧ Below w.heap.size w w' := by
  have H := Lib.hid h
  have h1 := h.one
  clear h
  go_enter Try.func36, Try.ntmps36
  go_wp2_with fail
  with_reducible refine (nou_none p _ (H.out.next (by go_grown))).mono ?_
  rintro e w1 ⟨rfl, rfl⟩
  go_wp2
  go_ret
  exact ⟨by simp, by go_grown⟩
theorem nou_height (p : Value) (w : World) (h : NoU w p) : Calls Try.prog 33 #[p] w fun e w' => e = .returned (.int .i64 0) ∧ Below w.heap.size w w' := by
  have H := Lib.hid h
  have h1 := h.one
  clear h
  go_enter Try.func33, Try.ntmps33
  go_wp2_with fail
  with_reducible refine (nou_none p _ (H.out.next (by go_grown))).mono ?_
  rintro e w1 ⟨rfl, rfl⟩
  go_wp2
  go_ret
  exact ⟨by simp, by go_grown⟩
theorem nou_all (p : Value) (w : World) (h : NoU w p) : Calls Try.prog 23 #[p] w fun e w' => e = .returned (.tuple #[(.int .u64 0), .bool false]) ∧ Below w.heap.size w w' := by
  have H := Lib.hid h
  have h1 := h.one
  clear h
  go_enter Try.func23, Try.ntmps23
  go_wp2_with fail
  with_reducible refine (nou_none p _ (H.out.next (by go_grown))).mono ?_
  rintro e w1 ⟨rfl, rfl⟩
  go_wp2
  go_ret2
  exact ⟨rfl, by go_grown⟩
theorem nou_upto (p : Value) (n : Int) (w : World) (h : NoU w p) : Calls Try.prog 21 #[p, .int .u64 n] w fun e w' => e = .returned (.tuple #[(.int .u64 0), .bool false]) ∧ Below w.heap.size w w' := by
  have H := Lib.hid h
  have h1 := h.one
  clear h
  obtain ⟨q, rfl⟩ : ∃ q, p = .pointer q := by rcases H.out with h | ⟨T, h, -⟩ <;> exact ⟨_, h⟩
  go_enter Try.func21, Try.ntmps21
  go_upto_region 1 with (fail)
  obtain ⟨w0, hw0⟩ : ∃ x, (((w).alloc (.cells #[.pointer q] 24)).alloc (.cells #[.int .u64 0] 23)).alloc (.cells #[.bool false] 4) = x := ⟨_, rfl⟩
  have hb0 : Below w.heap.size w w0 := by rw [← hw0]; go_grown
  have b0 : Blk w0 w.heap.size 24 #[.pointer q] := by rw [← hw0]; exact ((Blk.new_at (by simp)).alloc _).alloc _
  have x00 : w0.cell? ⟨w.heap.size, 0, none⟩ = some (.pointer q) := b0.get 0 rfl
  have f00 : w0.frozen? ⟨w.heap.size, 0, none⟩ = false := b0.frozen 0
  have E00 := setCell_same x00
  clear b0
  have b1 : Blk w0 (w.heap.size + 1) 23 #[.int .u64 0] := by rw [← hw0]; exact (Blk.new_at (by simp)).alloc _
  have x10 : w0.cell? ⟨w.heap.size + 1, 0, none⟩ = some (.int .u64 0) := b1.get 0 rfl
  have f10 : w0.frozen? ⟨w.heap.size + 1, 0, none⟩ = false := b1.frozen 0
  have E10 := setCell_same x10
  clear b1
  have b2 : Blk w0 (w.heap.size + 2) 4 #[.bool false] := by rw [← hw0]; exact Blk.new_at (by simp)
  have x20 : w0.cell? ⟨w.heap.size + 2, 0, none⟩ = some (.bool false) := b2.get 0 rfl
  have f20 : w0.frozen? ⟨w.heap.size + 2, 0, none⟩ = false := b2.frozen 0
  have E20 := setCell_same x20
  clear b2
  rw [hw0]
  clear hw0
  go_wp2_with fail
  with_reducible refine (nou_none _ w0 (H.out.next hb0)).mono ?_
  rintro e w1 ⟨rfl, rfl⟩
  go_wp2
  refine bodyPost_ret (by simp [results, Try.results21, go_sem, x00, x10, x20]; try rfl) rfl ⟨rfl, hb0⟩
theorem nou_find (p : Value) (f : Value) (w : World) (h : NoU w p) : Calls Try.prog 24 #[p, f] w fun e w' => e = .returned (.tuple #[.agg #[.int .u64 0, .int .i64 0], .bool false]) ∧ Below w.heap.size w w' := by
  have H := Lib.hid h
  have h1 := h.one
  clear h
  go_enter Try.func24, Try.ntmps24
  go_upto_region 1 with (fail)
  obtain ⟨w0, hw0⟩ : ∃ x, (w).alloc (.cells #[.int .u64 0, .int .i64 0] 31) = x := ⟨_, rfl⟩
  have hb0 : Below w.heap.size w w0 := by rw [← hw0]; go_grown
  have b0 : Blk w0 w.heap.size 31 #[.int .u64 0, .int .i64 0] := by rw [← hw0]; exact Blk.new_at (by simp)
  have x00 : w0.cell? ⟨w.heap.size, 0, none⟩ = some (.int .u64 0) := b0.get 0 rfl
  have f00 : w0.frozen? ⟨w.heap.size, 0, none⟩ = false := b0.frozen 0
  have E00 := setCell_same x00
  have x01 : w0.cell? ⟨w.heap.size, 1, none⟩ = some (.int .i64 0) := b0.get 1 rfl
  have f01 : w0.frozen? ⟨w.heap.size, 1, none⟩ = false := b0.frozen 1
  have E01 := setCell_same x01
  clear b0
  rw [hw0]
  clear hw0
  go_wp2_with fail
  with_reducible refine (nou_none p w0 (H.out.next hb0)).mono ?_
  rintro e w1 ⟨rfl, rfl⟩
  go_wp2
  refine bodyPost_ret (by simp [results, Try.results24, go_sem, x00, x01]; try rfl) rfl ⟨rfl, hb0⟩
theorem nou_well (p : Value) (f : Value) (w : World) (h : NoU w p) : Calls Try.prog 34 #[p, f] w fun e w' => e = .returned (.bool false) ∧ Below w.heap.size w w' := by
  have H := Lib.hid h
  have h1 := h.one
  clear h
  refine calls_of_wp_marks Try.func34 rfl ?_
  simp only [Try.ntmps34, List.size_toArray, List.length_cons, List.length_nil, Nat.reduceAdd, Nat.reduceSub, Array.replicate_succ, Array.replicate_zero, List.push_toArray, List.append_toArray, List.nil_append, List.cons_append]
  go_upto_region 1 with (fail)
  obtain ⟨w0, hw0⟩ : ∃ x, (w).alloc (.cells #[.bool false] 4) = x := ⟨_, rfl⟩
  have hb0 : Below w.heap.size w w0 := by rw [← hw0]; go_grown
  have b0 : Blk w0 w.heap.size 4 #[.bool false] := by rw [← hw0]; exact Blk.new_at (by simp)
  have x00 : w0.cell? ⟨w.heap.size, 0, none⟩ = some (.bool false) := b0.get 0 rfl
  have f00 : w0.frozen? ⟨w.heap.size, 0, none⟩ = false := b0.frozen 0
  have E00 := setCell_same x00
  have b9 := b0
  clear b0
  rw [hw0]
  clear hw0
  go_wp2_with fail
  with_reducible refine (nou_none p w0 (H.out.next hb0)).mono ?_
  rintro e w1 ⟨rfl, rfl⟩
  go_wp2
  refine marks_ret (B := w.heap.size) [] rfl (by intro D hd; cases hd) (by simp) ?_
  intro w' hs
  have n0 : w'.cell? ⟨w.heap.size, 0, none⟩ = some (.bool false) := (b9.stays hs).get 0 rfl
  exact ⟨_, by simp [results, Try.results34, go_sem, n0]; try rfl, rfl, below_stays hb0 hs (Nat.le_refl _)⟩
theorem nou_over (p : Value) (w : World) (h : NoU w p) : OverU p [] (fun W => NoU W p) := by
  refine ⟨h.one, fun B0 => ?_, fun B w w' h hs => h.stays hs, fun w w' h hb => h.next hb⟩
  intro l J Jx W hJ hJx hS hY h0
  have HS := Lib.hid hS
  have H0 := Lib.hid h0
  have h1 := h.one
  clear hJ hJx hS hY h0 h
  refine callsIn_of_wp Try.func70 rfl trivial ?_ rfl
  simp only [Try.ntmps70, List.size_toArray, List.length_cons, List.length_nil, Nat.reduceAdd, Nat.reduceSub, Array.replicate_succ, Array.replicate_zero, List.push_toArray, List.append_toArray, List.nil_append, List.cons_append]
  have cB := (HS.out 0 W H0.out).2.get 0 rfl
  have hd : 1 ≤ 6 := by omega
  gi_wp2_with (first | (refine ⟨trivial, ?_⟩; gi_at_call 60; refine (callsIn_wide.2 (nou_none p W (HS.out 0 W H0.out).1)).mono ?_; rintro e w' ⟨rfl, rfl⟩))
  go_end0
  exact ⟨⟨_, rfl⟩, .inl H0.out⟩
theorem nou_copy (w : World) : Calls Try.prog 28 #[.pointer none] w fun e w' => e = .returned (.pointer none) ∧ Below w.heap.size w w' := by
  go_enter Try.func28, Try.ntmps28
  go_wp2
  go_ret
  exact ⟨by simp, by go_grown⟩
theorem nou_new1 (w : World) (f : Value) : Calls Try.prog 40 #[.nilFunc, f] w fun e w' => e = .returned (.pointer none) ∧ Below w.heap.size w w' := by
  have q := fun w => eql_nn (P := Try.prog) (w := w) 65 Try.underlying65
  go_enter Try.func40, Try.ntmps40
  go_wp2
  go_ret
  exact ⟨by simp, by go_grown⟩
theorem nou_new2 (w : World) : Calls Try.prog 40 #[(.func (.func 42) #[] #[]), .nilFunc] w fun e w' => e = .returned (.pointer none) ∧ Below w.heap.size w w' := by
  have q := fun w => eql_nn (P := Try.prog) (w := w) 66 Try.underlying66
  have q2 := fun w => fn_neqU1 (.func 42) w
  go_enter Try.func40, Try.ntmps40
  go_wp2
  go_ret
  exact ⟨by simp, by go_grown⟩

end Go.Proofs.Ytjlnbpomncglcaa
