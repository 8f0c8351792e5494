/-
  Red-black trees in memory (h): those that nobody made.
-/
import Derived.Test.YtjlnbpomncglcaaProg
import Derived.Test.YtjlnbpomncglcaaRBHW
import Derived.Test.YtjlnbpomncglcaaRBHX
import Derived.Test.YtjlnbpomncglcaaRBHV
namespace Go.Proofs.Ytjlnbpomncglcaa
set_option linter.unusedVariables false
set_option linter.unusedSimpArgs false
set_option maxRecDepth 100000
open Go.RowKit Go.Shelf

attribute [local go_sem] Oper.semAt_some

section
variable {P : Program} {w : World} {ps rs : Array TypeId} {v : Bool}
theorem equalIn_nn (d : Nat) (t : TypeId) (h : P.underlying t = some (.func ps rs v)) : (Op.equalIn (d + 1) t .nilFunc .nilFunc).run P w = .ok true w := by simp [Op.equalIn, run_underlying h]
theorem equal_nn (t : TypeId) (h : P.underlying t = some (.func ps rs v)) : (Op.equal t .nilFunc .nilFunc).run P w = .ok true w := equalIn_nn 9999 t h
theorem eql_nn (t : TypeId) (h : P.underlying t = some (.func ps rs v)) : (binOp .eql t .nilFunc .nilFunc).run P w = .ok (.bool true) w := by
  simp only [binOp]
  simp [equal_nn t h]
end
/-- Nobody made the tree. -/
def NoH (w : World) (p : Value) : Prop := p = .pointer none ∨ ∃ T, p = .pointer (some ⟨T, 0, none⟩) ∧ Blk w T 135 #[.nilFunc, .nilFunc, .pointer none, .int .i64 0]
theorem NoH.one {w : World} {p : Value} (h : NoH w p) : p.oneCell' = true := by
  rcases h with rfl | ⟨T, rfl, -⟩ <;> rfl
theorem NoH.next {w w' : World} {p : Value} (h : NoH w p) (hb : Below w.heap.size w w') : NoH w' p := h.imp id fun ⟨T, e, b⟩ => ⟨T, e, b.next hb⟩
theorem NoH.stays {w w' : World} {p : Value} {B : Nat} (h : NoH w p) (hs : Stays B w w') : NoH w' p := h.imp id fun ⟨T, e, b⟩ => ⟨T, e, b.stays hs⟩
theorem noh_none (p : Value) (w : World) (h : NoH w p) : Calls Try.prog 101 #[p] w fun e w' => e = .returned (.bool true) ∧ w = w' := by
  rcases h with rfl | ⟨T, rfl, hb⟩
  · go_enter Try.func101, Try.ntmps101
    go_wp2
    go_ret
    exact ⟨rfl, rfl⟩
  · have c0 := hb.get 0 rfl
    have q := fun w => eql_nn (P := Try.prog) (w := w) 126 Try.underlying126
    clear hb
    go_enter Try.func101, Try.ntmps101
    go_wp2
    go_ret
    exact ⟨rfl, rfl⟩
theorem noh_at (p : Value) (k : RK) (w : World) (h : NoH w p) : Calls Try.prog 103 #[p, .agg #[.int .u64 k.1, .int .i64 k.2]] w fun e w' => e = .returned (.pointer none) ∧ Below w.heap.size w w' := by
  have H := Lib.hid h
  have h1 := h.one
  clear h
  go_enter Try.func103, Try.ntmps103
  go_wp2_with fail
  with_reducible refine (noh_none p _ (H.out.next (by go_grown))).mono ?_
  rintro e w1 ⟨rfl, rfl⟩
  go_wp2
  go_ret
  exact ⟨by simp, by go_grown⟩
theorem noh_put (p : Value) (k : RK) (v : Int) (w : World) (h : NoH w p) : Calls Try.prog 83 #[p, .agg #[.int .u64 k.1, .int .i64 k.2], .int .u64 v] w fun e w' => e = .returned (.int .i64 1) ∧ Below w.heap.size w w' := by
  have H := Lib.hid h
  have h1 := h.one
  clear h
  go_enter Try.func83, Try.ntmps83
  go_wp2_with fail
  with_reducible refine (noh_none p _ (H.out.next (by go_grown))).mono ?_
  rintro e w1 ⟨rfl, rfl⟩
  go_wp2
  go_ret
  exact ⟨by simp, by go_grown⟩
theorem noh_drop (p : Value) (k : RK) (w : World) (h : NoH w p) : Calls Try.prog 84 #[p, .agg #[.int .u64 k.1, .int .i64 k.2]] w fun e w' => e = .returned (.int .i64 1) ∧ Below w.heap.size w w' := by
  have H := Lib.hid h
  have h1 := h.one
  clear h
  go_enter Try.func84, Try.ntmps84
  go_wp2_with fail
  with_reducible refine (noh_none p _ (H.out.next (by go_grown))).mono ?_
  rintro e w1 ⟨rfl, rfl⟩
  go_wp2
  go_ret
  exact ⟨by simp, by go_grown⟩
theorem noh_get (p : Value) (k : RK) (w : World) (h : NoH w p) : Calls Try.prog 76 #[p, .agg #[.int .u64 k.1, .int .i64 k.2]] w fun e w' => e = .returned (.tuple #[.int .u64 0, .bool false]) ∧ Below w.heap.size w w' := by
  have H := Lib.hid h
  clear h
  go_enter Try.func76, Try.ntmps76
  go_upto_region 1 with (fail)
  obtain ⟨w0, hw0⟩ : ∃ x, w.alloc (.cells #[.int .u64 k.1, .int .i64 k.2] 31) = x := ⟨_, rfl⟩
  have hb0 : Below w.heap.size w w0 := by rw [← hw0]; go_grown
  have kb : Blk w0 w.heap.size 31 #[.int .u64 k.1, .int .i64 k.2] := by rw [← hw0]; exact Blk.new w _ _
  rw [hw0]
  have HB0 := Lib.hid hb0
  have x0 := kb.get 0 rfl
  have x1 := kb.get 1 rfl
  clear hw0 hb0 kb
  go_wp2_with fail
  with_reducible refine (noh_at p k w0 (H.out.next HB0.out)).mono ?_
  rintro e w1 ⟨rfl, hb⟩
  have HB1 := Lib.hid (below_next HB0.out hb)
  clear hb x0 x1
  go_wp2
  go_ret2
  exact ⟨rfl, HB1.out⟩
theorem noh_len (p : Value) (w : World) (h : NoH w p) : Calls Try.prog 79 #[p] w fun e w' => e = .returned (.int .i64 0) ∧ Below w.heap.size w w' := by
  have H := Lib.hid h
  have h1 := h.one
  clear h
  go_enter Try.func79, Try.ntmps79
  go_wp2_with fail
  with_reducible refine (noh_none p _ (H.out.next (by go_grown))).mono ?_
  rintro e w1 ⟨rfl, rfl⟩
  go_wp2
  go_ret
  exact ⟨by simp, by go_grown⟩
theorem noh_all (p : Value) (w : World) (h : NoH w p) : Calls Try.prog 78 #[p] w fun e w' => e = .returned (.tuple #[(.agg #[.int .u64 0, .int .i64 0]), .bool false]) ∧ Below w.heap.size w w' := by
  have H := Lib.hid h
  have h1 := h.one
  clear h
  go_enter Try.func78, Try.ntmps78
  go_wp2_with fail
  with_reducible refine (noh_none p _ (H.out.next (by go_grown))).mono ?_
  rintro e w1 ⟨rfl, rfl⟩
  go_wp2
  go_returns
  exact ⟨rfl, by go_grown⟩
theorem noh_upto (p : Value) (n : Int) (w : World) (h : NoH w p) : Calls Try.prog 73 #[p, .int .u64 n] w fun e w' => e = .returned (.tuple #[(.agg #[.int .u64 0, .int .i64 0]), .bool false]) ∧ Below w.heap.size w w' := by
  have H := Lib.hid h
  have h1 := h.one
  clear h
  obtain ⟨q, rfl⟩ : ∃ q, p = .pointer q := by rcases H.out with h | ⟨T, h, -⟩ <;> exact ⟨_, h⟩
  go_enter Try.func73, Try.ntmps73
  go_upto_region 1 with (fail)
  obtain ⟨w0, hw0⟩ : ∃ x, (((w).alloc (.cells #[.pointer q] 98)).alloc (.cells #[.int .u64 0, .int .i64 0] 117)).alloc (.cells #[.bool false] 4) = x := ⟨_, rfl⟩
  have hb0 : Below w.heap.size w w0 := by rw [← hw0]; go_grown
  have b0 : Blk w0 w.heap.size 98 #[.pointer q] := by rw [← hw0]; exact ((Blk.new_at (by simp)).alloc _).alloc _
  have x00 : w0.cell? ⟨w.heap.size, 0, none⟩ = some (.pointer q) := b0.get 0 rfl
  have f00 : w0.frozen? ⟨w.heap.size, 0, none⟩ = false := b0.frozen 0
  have E00 := setCell_same x00
  clear b0
  have b1 : Blk w0 (w.heap.size + 1) 117 #[.int .u64 0, .int .i64 0] := by rw [← hw0]; exact (Blk.new_at (by simp)).alloc _
  have x10 : w0.cell? ⟨w.heap.size + 1, 0, none⟩ = some (.int .u64 0) := b1.get 0 rfl
  have f10 : w0.frozen? ⟨w.heap.size + 1, 0, none⟩ = false := b1.frozen 0
  have E10 := setCell_same x10
  have x11 : w0.cell? ⟨w.heap.size + 1, 1, none⟩ = some (.int .i64 0) := b1.get 1 rfl
  have f11 : w0.frozen? ⟨w.heap.size + 1, 1, none⟩ = false := b1.frozen 1
  have E11 := setCell_same x11
  clear b1
  have b2 : Blk w0 (w.heap.size + 2) 4 #[.bool false] := by rw [← hw0]; exact Blk.new_at (by simp)
  have x20 : w0.cell? ⟨w.heap.size + 2, 0, none⟩ = some (.bool false) := b2.get 0 rfl
  have f20 : w0.frozen? ⟨w.heap.size + 2, 0, none⟩ = false := b2.frozen 0
  have E20 := setCell_same x20
  clear b2
  rw [hw0]
  clear hw0
  go_wp2_with fail
  with_reducible refine (noh_none _ w0 (H.out.next hb0)).mono ?_
  rintro e w1 ⟨rfl, rfl⟩
  go_wp2
  refine bodyPost_ret (by simp [results, Try.results73, go_sem, x00, x10, x11, x20]; try rfl) rfl ⟨rfl, hb0⟩
theorem noh_find (p : Value) (f : Value) (w : World) (h : NoH w p) : Calls Try.prog 74 #[p, f] w fun e w' => e = .returned (.tuple #[.agg #[.int .u64 0, .int .i64 0], .bool false]) ∧ Below w.heap.size w w' := by
  have H := Lib.hid h
  have h1 := h.one
  clear h
  go_enter Try.func74, Try.ntmps74
  go_upto_region 1 with (fail)
  obtain ⟨w0, hw0⟩ : ∃ x, (w).alloc (.cells #[.int .u64 0, .int .i64 0] 31) = x := ⟨_, rfl⟩
  have hb0 : Below w.heap.size w w0 := by rw [← hw0]; go_grown
  have b0 : Blk w0 w.heap.size 31 #[.int .u64 0, .int .i64 0] := by rw [← hw0]; exact Blk.new_at (by simp)
  have x00 : w0.cell? ⟨w.heap.size, 0, none⟩ = some (.int .u64 0) := b0.get 0 rfl
  have f00 : w0.frozen? ⟨w.heap.size, 0, none⟩ = false := b0.frozen 0
  have E00 := setCell_same x00
  have x01 : w0.cell? ⟨w.heap.size, 1, none⟩ = some (.int .i64 0) := b0.get 1 rfl
  have f01 : w0.frozen? ⟨w.heap.size, 1, none⟩ = false := b0.frozen 1
  have E01 := setCell_same x01
  clear b0
  rw [hw0]
  clear hw0
  go_wp2_with fail
  with_reducible refine (noh_none p w0 (H.out.next hb0)).mono ?_
  rintro e w1 ⟨rfl, rfl⟩
  go_wp2
  refine bodyPost_ret (by simp [results, Try.results74, go_sem, x00, x01]; try rfl) rfl ⟨rfl, hb0⟩
theorem noh_over (p : Value) (w : World) (h : NoH w p) : OverH p [] (fun W => NoH W p) := by
  refine ⟨h.one, fun B0 => ?_, fun B w w' h hs => h.stays hs, fun w w' h hb => h.next hb⟩
  intro l J Jx W hJ hJx hS hY h0
  have HS := Lib.hid hS
  have H0 := Lib.hid h0
  have h1 := h.one
  clear hJ hJx hS hY h0 h
  refine callsIn_of_wp Try.func104 rfl trivial ?_ rfl
  simp only [Try.ntmps104, List.size_toArray, List.length_cons, List.length_nil, Nat.reduceAdd, Nat.reduceSub, Array.replicate_succ, Array.replicate_zero, List.push_toArray, List.append_toArray, List.nil_append, List.cons_append]
  have cB := (HS.out 0 W H0.out).2.get 0 rfl
  have hd : 1 ≤ 6 := by omega
  gi_wp2_with (first | (refine ⟨trivial, ?_⟩; gi_at_call 101; refine (callsIn_wide.2 (noh_none p W (HS.out 0 W H0.out).1)).mono ?_; rintro e w' ⟨rfl, rfl⟩))
  go_end0
  exact ⟨⟨_, rfl⟩, .inl H0.out⟩

end Go.Proofs.Ytjlnbpomncglcaa
