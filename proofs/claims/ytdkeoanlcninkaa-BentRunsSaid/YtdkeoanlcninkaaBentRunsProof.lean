/-
  The statement BentRunsSaid is proved: for every input the law returns true and leaves its arguments as they read. No condition of ours.
-/
import Derived.Test.YtdkeoanlcninkaaRows
import Derived.Test.YtdkeoanlcninkaaOpen
import Derived.Test.YtdkeoanlcninkaaBentRuns
namespace Go.Proofs.Ytdkeoanlcninkaa.bentRunsProof
open Go.ChangeShapes Go.WideShapes Go.ChangeAt Go.RowKit
open Go.ChangeMaps (open_string shut_string)
set_option linter.unusedVariables false
set_option linter.unusedSimpArgs false

theorem own : ownKnob Try.prog.godebug = none := by kernel_rfl
theorem laidOut : laidOutB Try.prog = true := by kernel_rfl

theorem flat22 : FlatT Try.prog 22 [.i .u64] := flat_int (by kernel_rfl) (by kernel_rfl)
noncomputable def structOf24 : Array Field := match Try.prog.underlying 24 with | some (.struct fs) => fs | _ => #[]
theorem underS24 : Try.prog.underlying 24 = some (.struct structOf24) := by kernel_rfl
theorem sees24 : (structOf24.toList.map fun f => (f.type, f.offset)) = [(22, 0), (22, 1), (22, 2)] := by kernel_rfl
theorem flat24 : FlatT Try.prog 24 [.i .u64, .i .u64, .i .u64] := flat_seen underS24 sees24 (kss := [[.i .u64], [.i .u64], [.i .u64]]) (by kernel_rfl) (⟨rfl, flat22, ⟨rfl, flat22, ⟨rfl, flat22, trivial⟩⟩⟩) rfl
noncomputable def structOf31 : Array Field := match Try.prog.underlying 31 with | some (.struct fs) => fs | _ => #[]
theorem underS31 : Try.prog.underlying 31 = some (.struct structOf31) := by kernel_rfl
theorem sees31 : (structOf31.toList.map fun f => (f.type, f.offset)) = [(22, 0), (22, 1), (22, 2), (22, 3)] := by kernel_rfl
theorem flat31 : FlatT Try.prog 31 [.i .u64, .i .u64, .i .u64, .i .u64] := flat_seen underS31 sees31 (kss := [[.i .u64], [.i .u64], [.i .u64], [.i .u64]]) (by kernel_rfl) (⟨rfl, flat22, ⟨rfl, flat22, ⟨rfl, flat22, ⟨rfl, flat22, trivial⟩⟩⟩⟩) rfl

set_option maxRecDepth 100000 in
theorem lifted (os : Os) (started : os.Started) (H : Type) (enc : TypeId × Value → H) :
    ReturnsInHanded {} Try.checked os 6 .any (Rows.bentRunsSpec.pre6 enc Try.prog Try.f6 Rows.bentRunsRow.domain false) (Rows.bentRunsSpec.post enc Try.prog Try.f6 false true false false) := by
  refine returnsInHanded_of_change (C := Try.checked) own started (by kernel_rfl) Try.func6
    (ChangeSpec.witness6 (enc := enc) (C := Try.checked) false ⟨#[], #[.agg #[.int .u64 0, .int .u64 0, .int .u64 0], .slice none 0 0, .int .i64 0], []⟩ 40 (by kernel_rfl) (by kernel_rfl) (by kernel_rfl) (by kernel_rfl)) ?_
  intro W base args ds gs before hval0 hW hcnd _
  have hval : ∀ (j : Nat) t v, Try.f6.params[j]? = some t → args[j]? = some v → Value.okWide Try.prog W .any base t v := hval0
  have hW' := hW
  obtain ⟨p, q, hA0, hV, rfl, hfz, hnd⟩ := hW
  have hA : DataW.TrodAll enc Try.prog W 0 (fun _ => true) true Try.f6.params.toList args.toList ds p := hA0
  rw [Try.params6] at hA hval
  obtain ⟨v0, vs0, d0, ds0, p0, q0, hargs, rfl, rfl, h0, r0⟩ := trodAll_cons hA
  obtain ⟨v1, vs1, d1, ds1, p1, q1, rfl, rfl, rfl, h1, r1⟩ := trodAll_cons r0
  obtain ⟨v2, vs2, d2, ds2, p2, q2, rfl, rfl, rfl, h2, r2⟩ := trodAll_cons r1
  obtain ⟨rfl, rfl, rfl⟩ := trodAll_nil r2
  obtain rfl : args = #[v0, v1, v2] := by cases args; simp_all
  obtain ⟨rfl, rfl⟩ := trodVars_none hV
  have k0 := h0
  have lt0 : ∀ x ∈ p0, x.block < W.heap.size := by obtain ⟨m, hm⟩ := k0; exact DataW.trod_lt m _ _ _ hm
  obtain ⟨cs0, rfl, len0, get0⟩ := open_flat underS24 flat24 (hval 0 24 v0 rfl rfl) h0
  obtain ⟨_, e0_0, a0_0, rfl, f0_0⟩ := get0 0 _ rfl
  obtain ⟨_, e0_1, a0_1, rfl, f0_1⟩ := get0 1 _ rfl
  obtain ⟨_, e0_2, a0_2, rfl, f0_2⟩ := get0 2 _ rfl
  obtain rfl : cs0 = [.int .u64 a0_0, .int .u64 a0_1, .int .u64 a0_2] := by
    apply List.ext_getElem?
    intro i
    match i with
    | 0 => exact e0_0
    | 1 => exact e0_1
    | 2 => exact e0_2
    | i + 3 => rw [List.getElem?_eq_none (by rw [len0]; simp), List.getElem?_eq_none (by simp)]
  have k1 := h1
  have lt1 : ∀ x ∈ p1, x.block < W.heap.size := by obtain ⟨m, hm⟩ := k1; exact DataW.trod_lt m _ _ _ hm
  obtain ⟨A1, n1, c1, rfl⟩ := okWide_slice (show Try.prog.underlying 47 = some (.slice 31) by kernel_rfl) (hval 1 47 v1 rfl rfl)
  obtain ⟨fu1, hf1⟩ := h1
  obtain ⟨A', n', c', hcs1, hl1, hm1, hA1, hc1⟩ := open_flats (show Try.prog.underlying 47 = some (.slice 31) by kernel_rfl) flat31 (by decide) hf1
  simp [Value.cells] at hcs1
  obtain ⟨rfl, rfl, rfl⟩ := hcs1
  obtain ⟨F1_0, g1_0⟩ := column_int fun i hi => hc1 i hi 0 _ rfl
  obtain ⟨F1_1, g1_1⟩ := column_int fun i hi => hc1 i hi 1 _ rfl
  obtain ⟨F1_2, g1_2⟩ := column_int fun i hi => hc1 i hi 2 _ rfl
  obtain ⟨F1_3, g1_3⟩ := column_int fun i hi => hc1 i hi 3 _ rfl
  have k2 := h2
  have lt2 : ∀ x ∈ p2, x.block < W.heap.size := by obtain ⟨m, hm⟩ := k2; exact DataW.trod_lt m _ _ _ hm
  obtain ⟨a2, rfl, rfl, rfl, f2⟩ := open_int (k := .i64) (by kernel_rfl) (hval 2 3 v2 rfl rfl) h2
  clear hA0 hval0
  refine (bentRuns_walk W a0_0 f0_0 a0_1 f0_1 a0_2 f0_2 A1 n1 c1 F1_0 (fun i hi => (g1_0 i hi).1) F1_1 (fun i hi => (g1_1 i hi).1) F1_2 (fun i hi => (g1_2 i hi).1) F1_3 (fun i hi => (g1_3 i hi).1) hl1 hm1 hA1 (fun b off hb i hi => (g1_0 i hi).2 b off hb) (fun b off hb i hi => (g1_1 i hi).2 b off hb) (fun b off hb i hi => (g1_2 i hi).2 b off hb) (fun b off hb i hi => (g1_3 i hi).2 b off hb) a2 f2).mono fun e W' ⟨he, bel⟩ => ?_
  subst he
  exact ⟨_, rfl, _, _, _, [], _, [], hW', trodAll_mk1 (shut_bool (show Try.prog.underlying 4 = some .bool by kernel_rfl) _), (trodAll_cons_mk (Below.trod laidOut (by kernel_rfl) (of_decide_eq_true (by kernel_rfl)) k0 bel lt0) (trodAll_cons_mk (Below.trod laidOut (by kernel_rfl) (of_decide_eq_true (by kernel_rfl)) k1 bel lt1) (trodAll_cons_mk (Below.trod laidOut (by kernel_rfl) (of_decide_eq_true (by kernel_rfl)) k2 bel lt2) trodAll_mk0))), rfl, bel.frame _, fun h => by cases h⟩

theorem over : Rows.bentRunsRow.holds Try.pinned (OpenSpec.ofChange Rows.bentRunsSpec) :=
  OpenClaim.holds_of_wide 6 Try.f6 rfl rfl rfl rfl rfl rfl rfl ⟨rfl, rfl, rfl, rfl, rfl⟩ rfl rfl rfl rfl rfl (by kernel_rfl) Try.func6 (by kernel_rfl)
    (of_decide_eq_true (by kernel_rfl)) (by unfold Func.isWrapper; first | (rw [if_pos (by decide +kernel)]; kernel_rfl) | (rw [if_neg (by decide +kernel)]; exact ⟨rfl, rfl⟩))
    (fun os started H enc _ => lifted os started H enc)

/-- The statement. -/
theorem proved : Rows.BentRunsSaid := over
#print axioms proved
end Go.Proofs.Ytdkeoanlcninkaa.bentRunsProof
