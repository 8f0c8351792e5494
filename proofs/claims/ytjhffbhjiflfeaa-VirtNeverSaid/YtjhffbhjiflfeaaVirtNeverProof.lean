/-
  The statement VirtNeverSaid is proved: for every input the law returns true and leaves its arguments as they read. No condition of ours.
-/
import Derived.Test.YtjhffbhjiflfeaaRows
import Derived.Test.YtjhffbhjiflfeaaOpen
import Derived.Test.YtjhffbhjiflfeaaVirtNever
namespace Go.Proofs.Ytjhffbhjiflfeaa.virtNeverProof
open Go.ChangeShapes Go.WideShapes Go.ChangeAt Go.RowKit
open Go.ChangeMaps (open_string shut_string)
set_option linter.unusedVariables false
set_option linter.unusedSimpArgs false

theorem own : ownKnob Try.prog.godebug = none := by kernel_rfl
theorem laidOut : laidOutB Try.prog = true := by kernel_rfl

theorem flat5 : FlatT Try.prog 5 [.i .u8] := flat_int (by kernel_rfl) (by kernel_rfl)
theorem flat3 : FlatT Try.prog 3 [.i .i64] := flat_int (by kernel_rfl) (by kernel_rfl)
theorem flat27 : FlatT Try.prog 27 [.i .u64] := flat_int (by kernel_rfl) (by kernel_rfl)
noncomputable def structOf29 : Array Field := match Try.prog.underlying 29 with | some (.struct fs) => fs | _ => #[]
theorem underS29 : Try.prog.underlying 29 = some (.struct structOf29) := by kernel_rfl
theorem sees29 : (structOf29.toList.map fun f => (f.type, f.offset)) = [(27, 0), (27, 1), (27, 2)] := by kernel_rfl
theorem flat29 : FlatT Try.prog 29 [.i .u64, .i .u64, .i .u64] := flat_seen underS29 sees29 (kss := [[.i .u64], [.i .u64], [.i .u64]]) (by kernel_rfl) (⟨rfl, flat27, ⟨rfl, flat27, ⟨rfl, flat27, trivial⟩⟩⟩) rfl
noncomputable def structOf31 : Array Field := match Try.prog.underlying 31 with | some (.struct fs) => fs | _ => #[]
theorem underS31 : Try.prog.underlying 31 = some (.struct structOf31) := by kernel_rfl
theorem sees31 : (structOf31.toList.map fun f => (f.type, f.offset)) = [(5, 0), (3, 1), (29, 2), (27, 5)] := by kernel_rfl
theorem flat31 : FlatT Try.prog 31 [.i .u8, .i .i64, .i .u64, .i .u64, .i .u64, .i .u64] := flat_seen underS31 sees31 (kss := [[.i .u8], [.i .i64], [.i .u64, .i .u64, .i .u64], [.i .u64]]) (by kernel_rfl) (⟨rfl, flat5, ⟨rfl, flat3, ⟨rfl, flat29, ⟨rfl, flat27, trivial⟩⟩⟩⟩) rfl

set_option maxRecDepth 100000 in
theorem lifted (os : Os) (started : os.Started) (H : Type) (enc : TypeId × Value → H) :
    ReturnsInHanded {} Try.checked os 3 .any (Rows.virtNeverSpec.pre6 enc Try.prog Try.f3 Rows.virtNeverRow.domain false) (Rows.virtNeverSpec.post enc Try.prog Try.f3 false true false false) := by
  refine returnsInHanded_of_change (C := Try.checked) own started (by kernel_rfl) Try.func3
    (ChangeSpec.witness6 (enc := enc) (C := Try.checked) false ⟨#[], #[.slice none 0 0], []⟩ 40 (by kernel_rfl) (by kernel_rfl) (by kernel_rfl) (by kernel_rfl)) ?_
  intro W base args ds gs before hval0 hW hcnd _
  have hval : ∀ (j : Nat) t v, Try.f3.params[j]? = some t → args[j]? = some v → Value.okWide Try.prog W .any base t v := hval0
  have hW' := hW
  obtain ⟨p, q, hAll0, hV, rfl, hfz, hnd⟩ := hW
  have hA : DataW.TrodAll enc Try.prog W 0 (fun _ => true) true Try.f3.params.toList args.toList ds p := hAll0
  rw [Try.params3] at hA hval
  obtain ⟨v0, vs0, d0, ds0, p0, q0, hargs, rfl, rfl, h0, r0⟩ := trodAll_cons hA
  obtain ⟨rfl, rfl, rfl⟩ := trodAll_nil r0
  obtain rfl : args = #[v0] := by cases args; simp_all
  obtain ⟨rfl, rfl⟩ := trodVars_none hV
  have k0 := h0
  have lt0 : ∀ x ∈ p0, x.block < W.heap.size := by obtain ⟨m, hm⟩ := k0; exact DataW.trod_lt m _ _ _ hm
  obtain ⟨A0, n0, c0, rfl⟩ := okWide_slice (show Try.prog.underlying 22 = some (.slice 31) by kernel_rfl) (hval 0 22 v0 rfl rfl)
  obtain ⟨fu0, hf0⟩ := h0
  obtain ⟨A', n', c', hcs0, hl0, hm0, hA0, hc0⟩ := open_flats (show Try.prog.underlying 22 = some (.slice 31) by kernel_rfl) flat31 (by decide) hf0
  simp [Value.cells] at hcs0
  obtain ⟨rfl, rfl, rfl⟩ := hcs0
  obtain ⟨F0_0, g0_0⟩ := column_int fun i hi => hc0 i hi 0 _ rfl
  obtain ⟨F0_1, g0_1⟩ := column_int fun i hi => hc0 i hi 1 _ rfl
  obtain ⟨F0_2, g0_2⟩ := column_int fun i hi => hc0 i hi 2 _ rfl
  obtain ⟨F0_3, g0_3⟩ := column_int fun i hi => hc0 i hi 3 _ rfl
  obtain ⟨F0_4, g0_4⟩ := column_int fun i hi => hc0 i hi 4 _ rfl
  obtain ⟨F0_5, g0_5⟩ := column_int fun i hi => hc0 i hi 5 _ rfl
  clear hAll0 hval0
  refine (virtNever_walk W A0 n0 c0 F0_0 (fun i hi => (g0_0 i hi).1) F0_1 (fun i hi => (g0_1 i hi).1) F0_2 (fun i hi => (g0_2 i hi).1) F0_3 (fun i hi => (g0_3 i hi).1) F0_4 (fun i hi => (g0_4 i hi).1) F0_5 (fun i hi => (g0_5 i hi).1) hl0 hm0 hA0 (fun b off hb i hi => (g0_0 i hi).2 b off hb) (fun b off hb i hi => (g0_1 i hi).2 b off hb) (fun b off hb i hi => (g0_2 i hi).2 b off hb) (fun b off hb i hi => (g0_3 i hi).2 b off hb) (fun b off hb i hi => (g0_4 i hi).2 b off hb) (fun b off hb i hi => (g0_5 i hi).2 b off hb)).mono fun e W' ⟨he, bel⟩ => ?_
  subst he
  exact ⟨_, rfl, _, _, _, [], _, [], hW', trodAll_mk1 (shut_bool (show Try.prog.underlying 4 = some .bool by kernel_rfl) _), (trodAll_cons_mk (Below.trod laidOut (by kernel_rfl) (of_decide_eq_true (by kernel_rfl)) k0 bel lt0) trodAll_mk0), rfl, bel.frame _, fun h => by cases h⟩

theorem over : Rows.virtNeverRow.holds Try.pinned (OpenSpec.ofChange Rows.virtNeverSpec) :=
  OpenClaim.holds_of_wide 3 Try.f3 rfl rfl rfl rfl rfl rfl rfl ⟨rfl, rfl, rfl, rfl, rfl⟩ rfl rfl rfl rfl rfl (by kernel_rfl) Try.func3 (by kernel_rfl)
    (of_decide_eq_true (by kernel_rfl)) (by unfold Func.isWrapper; first | (rw [if_pos (by decide +kernel)]; kernel_rfl) | (rw [if_neg (by decide +kernel)]; exact ⟨rfl, rfl⟩))
    (fun os started H enc _ => lifted os started H enc)

/-- The statement. -/
theorem proved : Rows.VirtNeverSaid := over
#print axioms proved
end Go.Proofs.Ytjhffbhjiflfeaa.virtNeverProof
