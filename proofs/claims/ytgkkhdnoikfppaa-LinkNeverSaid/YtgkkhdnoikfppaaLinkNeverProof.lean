/-
  The statement LinkNeverSaid is proved: for every input the law returns true and leaves its arguments as they read. No condition of ours.
-/
import Derived.Test.YtgkkhdnoikfppaaRows
import Derived.Test.YtgkkhdnoikfppaaOpen
import Derived.Test.YtgkkhdnoikfppaaLinkNever
namespace Go.Proofs.Ytgkkhdnoikfppaa.linkNeverProof
open Go.ChangeShapes Go.WideShapes Go.ChangeAt Go.RowKit
open Go.ChangeMaps (open_string shut_string)
set_option linter.unusedVariables false
set_option linter.unusedSimpArgs false

theorem own : ownKnob Try.prog.godebug = none := by kernel_rfl
theorem laidOut : laidOutB Try.prog = true := by kernel_rfl

theorem flat5 : FlatT Try.prog 5 [.i .u8] := flat_int (by kernel_rfl) (by kernel_rfl)
theorem flat22 : FlatT Try.prog 22 [.i .u64] := flat_int (by kernel_rfl) (by kernel_rfl)
theorem flat3 : FlatT Try.prog 3 [.i .i64] := flat_int (by kernel_rfl) (by kernel_rfl)
noncomputable def structOf31 : Array Field := match Try.prog.underlying 31 with | some (.struct fs) => fs | _ => #[]
theorem underS31 : Try.prog.underlying 31 = some (.struct structOf31) := by kernel_rfl
theorem sees31 : (structOf31.toList.map fun f => (f.type, f.offset)) = [(5, 0), (22, 1), (3, 2)] := by kernel_rfl
theorem flat31 : FlatT Try.prog 31 [.i .u8, .i .u64, .i .i64] := flat_seen underS31 sees31 (kss := [[.i .u8], [.i .u64], [.i .i64]]) (by kernel_rfl) (⟨rfl, flat5, ⟨rfl, flat22, ⟨rfl, flat3, trivial⟩⟩⟩) rfl

set_option maxRecDepth 100000 in
theorem lifted (os : Os) (started : os.Started) (H : Type) (enc : TypeId × Value → H) :
    ReturnsInHanded {} Try.checked os 3 .any (Rows.linkNeverSpec.pre6 enc Try.prog Try.f3 Rows.linkNeverRow.domain false) (Rows.linkNeverSpec.post enc Try.prog Try.f3 false true false false) := by
  refine returnsInHanded_of_change (C := Try.checked) own started (by kernel_rfl) Try.func3
    (ChangeSpec.witness6 (enc := enc) (C := Try.checked) false ⟨#[], #[.int .u64 0, .slice none 0 0], []⟩ 40 (by kernel_rfl) (by kernel_rfl) (by kernel_rfl) (by kernel_rfl)) ?_
  intro W base args ds gs before hval0 hW hcnd _
  have hval : ∀ (j : Nat) t v, Try.f3.params[j]? = some t → args[j]? = some v → Value.okWide Try.prog W .any base t v := hval0
  have hW' := hW
  obtain ⟨p, q, hA0, hV, rfl, hfz, hnd⟩ := hW
  have hA : DataW.TrodAll enc Try.prog W 0 (fun _ => true) true Try.f3.params.toList args.toList ds p := hA0
  rw [Try.params3] at hA hval
  obtain ⟨v0, vs0, d0, ds0, p0, q0, hargs, rfl, rfl, h0, r0⟩ := trodAll_cons hA
  obtain ⟨v1, vs1, d1, ds1, p1, q1, rfl, rfl, rfl, h1, r1⟩ := trodAll_cons r0
  obtain ⟨rfl, rfl, rfl⟩ := trodAll_nil r1
  obtain rfl : args = #[v0, v1] := by cases args; simp_all
  obtain ⟨rfl, rfl⟩ := trodVars_none hV
  have k0 := h0
  have lt0 : ∀ x ∈ p0, x.block < W.heap.size := by obtain ⟨m, hm⟩ := k0; exact DataW.trod_lt m _ _ _ hm
  obtain ⟨a0, rfl, rfl, rfl, f0⟩ := open_int (k := .u64) (by kernel_rfl) (hval 0 22 v0 rfl rfl) h0
  have k1 := h1
  have lt1 : ∀ x ∈ p1, x.block < W.heap.size := by obtain ⟨m, hm⟩ := k1; exact DataW.trod_lt m _ _ _ hm
  obtain ⟨A1, n1, c1, rfl⟩ := okWide_slice (show Try.prog.underlying 23 = some (.slice 31) by kernel_rfl) (hval 1 23 v1 rfl rfl)
  obtain ⟨fu1, hf1⟩ := h1
  obtain ⟨A', n', c', hcs1, hl1, hm1, hA1, hc1⟩ := open_flats (show Try.prog.underlying 23 = some (.slice 31) by kernel_rfl) flat31 (by decide) hf1
  simp [Value.cells] at hcs1
  obtain ⟨rfl, rfl, rfl⟩ := hcs1
  obtain ⟨F1_0, g1_0⟩ := column_int fun i hi => hc1 i hi 0 _ rfl
  obtain ⟨F1_1, g1_1⟩ := column_int fun i hi => hc1 i hi 1 _ rfl
  obtain ⟨F1_2, g1_2⟩ := column_int fun i hi => hc1 i hi 2 _ rfl
  clear hA0 hval0
  refine (linkNever_walk W a0 f0 A1 n1 c1 F1_0 (fun i hi => (g1_0 i hi).1) F1_1 (fun i hi => (g1_1 i hi).1) F1_2 (fun i hi => (g1_2 i hi).1) hl1 hm1 hA1 (fun b off hb i hi => (g1_0 i hi).2 b off hb) (fun b off hb i hi => (g1_1 i hi).2 b off hb) (fun b off hb i hi => (g1_2 i hi).2 b off hb)).mono fun e W' ⟨he, bel⟩ => ?_
  subst he
  exact ⟨_, rfl, _, _, _, [], _, [], hW', trodAll_mk1 (shut_bool (show Try.prog.underlying 4 = some .bool by kernel_rfl) _), (trodAll_cons_mk (Below.trod laidOut (by kernel_rfl) (of_decide_eq_true (by kernel_rfl)) k0 bel lt0) (trodAll_cons_mk (Below.trod laidOut (by kernel_rfl) (of_decide_eq_true (by kernel_rfl)) k1 bel lt1) trodAll_mk0)), rfl, bel.frame _, fun h => by cases h⟩

theorem over : Rows.linkNeverRow.holds Try.pinned (OpenSpec.ofChange Rows.linkNeverSpec) :=
  OpenClaim.holds_of_wide 3 Try.f3 rfl rfl rfl rfl rfl rfl rfl ⟨rfl, rfl, rfl, rfl, rfl⟩ rfl rfl rfl rfl rfl (by kernel_rfl) Try.func3 (by kernel_rfl)
    (of_decide_eq_true (by kernel_rfl)) (by unfold Func.isWrapper; first | (rw [if_pos (by decide +kernel)]; kernel_rfl) | (rw [if_neg (by decide +kernel)]; exact ⟨rfl, rfl⟩))
    (fun os started H enc _ => lifted os started H enc)

/-- The statement. -/
theorem proved : Rows.LinkNeverSaid := over
#print axioms proved
end Go.Proofs.Ytgkkhdnoikfppaa.linkNeverProof
