/-
  'append([]uint64{}, l...)': what it leaves, whatever l is.
-/
import Derived.Test.YtifndlkhhhedlaaAppendCopy
namespace Go.Proofs.Ytifndlkhhhedlaa
set_option linter.unusedVariables false
set_option linter.unusedSimpArgs false
set_option maxRecDepth 100000
open Go.RowKit

/-- append, its run known. -/
theorem wpList_append_run {P : Program} {w w' : World} {ops : Array Oper} {rest : List Oper} {o : Oper} {a : Act} {Q : Exit → Act → World → Prop} (hgd : o.guard = none) (s x : Operand) (t : TypeId)
    (ho : o.op = .call { callee := .builtin .append, args := #[s, x], argTypes := #[t, t] }) (v v2 v' : Value) (hs : a.eval s = v) (hx : a.eval x = v2) (hr : (Builtin.append_ #[t, t] o.type #[v, v2]).run P w = .ok v' w')
    (h : wpList P ops Q rest (a.put o.dst v') w') : wpList P ops Q (o :: rest) a w := by
  refine wpList_plain hgd fun K hK => ?_
  unfold Oper.wp execOp
  simp only [ho, resolve, invoke, builtin, Sem.run_bind, Sem.run_pure, Result.andThen_ok, List.map_toArray, List.map_cons, List.map_nil, hs, hx, hr]
  exact hK _ _ h
theorem setCells_nil (w : World) (b o : Nat) : w.setCells b o [] = w := by
  first | rfl | simp [World.setCells]
theorem copy_run (w0 : World) (A : Option Addr) (n c : Nat) (F : Nat → Int) (hn2 : n ≤ 1000000) (hA : 0 < n → ∃ b off, A = some ⟨b, off, none⟩) (hc : ∀ b off, A = some ⟨b, off, none⟩ → ∀ i, i < n → (w0.alloc (.cells #[] 22)).cell? ⟨b, off + i, none⟩ = some (.int .u64 (F i))) :
    ∃ A' c' W, (Builtin.append_ #[23, 23] 23 #[.slice (some ⟨w0.heap.size, 0, none⟩) 0 0, .slice A n c]).run Try.prog (w0.alloc (.cells #[] 22)) = .ok (.slice A' n c') W ∧ Below w0.heap.size w0 W ∧
      (0 < n → ∃ g, A' = some ⟨g, 0, none⟩ ∧ g < W.heap.size ∧ ∀ i, i < n → W.cell? ⟨g, 0 + i, none⟩ = some (.int .u64 (F i))) := by
  obtain ⟨i0, hi, hz0, hz1, hz2⟩ := info_parts (show (Try.prog.info? 22).map (fun i => (i.zero, i.size, i.bytes)) = some (some (.int .u64 0), 1, 8) by kernel_rfl)
  have b0 : Below w0.heap.size w0 (w0.alloc (.cells #[] 22)) := by go_grown
  rcases Nat.eq_zero_or_pos n with h0 | h0
  · subst h0
    refine ⟨some ⟨w0.heap.size, 0, none⟩, 0, w0.alloc (.cells #[] 22), ?_, b0, fun h => by omega⟩
    have hsrc : Src Try.prog i0.size 23 (.slice A 0 c) 0 [] (w0.alloc (.cells #[] 22)) := by
      cases A with
      | none => exact Src.ofNil _ Try.underlying23 c
      | some a => exact Src.ofSlice _ Try.underlying23 a 0 c [] (by simp) (fun j u h => by simp at h) (fun u h => by cases h)
    have := run_append_room_src (w0.alloc (.cells #[] 22)) 23 23 23 22 i0 Try.underlying23 hi w0.heap.size 0 0 0 (.slice A 0 c) 0 [] hsrc (Nat.le_refl _) (fun j h => by simp at h) (fun j h => by simp at h)
    rw [setCells_nil] at this
    exact this
  · obtain ⟨b, off, rfl⟩ := hA h0
    obtain ⟨cM, Z, h⟩ := append_copy (w0.alloc (.cells #[] 22)) 23 23 22 w0.heap.size b off n c F i0 Try.underlying23 hi hz0 hz1 hz2 h0 hn2 (hc b off rfl)
    refine ⟨_, _, _, h, ?_, fun _ => ⟨_, rfl, by simp, fun i hi => ?_⟩⟩
    · exact (b0.drew).alloc (by simp) _
    · have k : Blk (((w0.alloc (.cells #[] 22)).drew).alloc (.cells ((rowOf F n).toArray ++ Z) 22)) (w0.alloc (.cells #[] 22)).heap.size 22 ((rowOf F n).toArray ++ Z) := Blk.new_at (by simp)
      have hg : (rowOf F n)[i]? = some (.int .u64 (F i)) := by unfold rowOf; rw [List.getElem?_map, List.getElem?_range hi]; rfl
      rw [Nat.zero_add]
      refine k.get i ?_
      have hl : i < (rowOf F n).length := (List.getElem?_eq_some_iff.1 hg).1
      rw [Array.getElem?_append_left (by simpa using hl)]
      simpa using hg

end Go.Proofs.Ytifndlkhhhedlaa
