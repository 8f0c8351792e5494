/-
  The statement VirtPlaysSaid is proved: for every input the law returns true and leaves its arguments as they read. No condition of ours.
-/
import Derived.Test.YtjhffbhjiflfeaaGreatRows
import Derived.Test.YtjhffbhjiflfeaaGreatOpen
import Derived.Test.YtjhffbhjiflfeaaGreatVpK
namespace Go.Proofs.YtjhffbhjiflfeaaGreat.virtPlaysProof
open Go.ChangeShapes Go.WideShapes Go.ChangeAt Go.RowKit
open Go.ChangeMaps (open_string shut_string)
set_option linter.unusedVariables false
set_option linter.unusedSimpArgs false

theorem own : ownKnob Tryz.prog.godebug = none := by kernel_rfl
theorem laidOut : laidOutB Tryz.prog = true := by kernel_rfl

theorem flat5 : FlatT Tryz.prog 5 [.i .u8] := flat_int (by kernel_rfl) (by kernel_rfl)
theorem flat3 : FlatT Tryz.prog 3 [.i .i64] := flat_int (by kernel_rfl) (by kernel_rfl)
theorem flat28 : FlatT Tryz.prog 28 [.i .u64] := flat_int (by kernel_rfl) (by kernel_rfl)
noncomputable def structOf32 : Array Field := match Tryz.prog.underlying 32 with | some (.struct fs) => fs | _ => #[]
theorem underS32 : Tryz.prog.underlying 32 = some (.struct structOf32) := by kernel_rfl
theorem sees32 : (structOf32.toList.map fun f => (f.type, f.offset)) = [(28, 0), (28, 1), (28, 2)] := by kernel_rfl
theorem flat32 : FlatT Tryz.prog 32 [.i .u64, .i .u64, .i .u64] := flat_seen underS32 sees32 (kss := [[.i .u64], [.i .u64], [.i .u64]]) (by kernel_rfl) (⟨rfl, flat28, ⟨rfl, flat28, ⟨rfl, flat28, trivial⟩⟩⟩) rfl
noncomputable def structOf34 : Array Field := match Tryz.prog.underlying 34 with | some (.struct fs) => fs | _ => #[]
theorem underS34 : Tryz.prog.underlying 34 = some (.struct structOf34) := by kernel_rfl
theorem sees34 : (structOf34.toList.map fun f => (f.type, f.offset)) = [(5, 0), (3, 1), (32, 2), (28, 5)] := by kernel_rfl
theorem flat34 : FlatT Tryz.prog 34 [.i .u8, .i .i64, .i .u64, .i .u64, .i .u64, .i .u64] := flat_seen underS34 sees34 (kss := [[.i .u8], [.i .i64], [.i .u64, .i .u64, .i .u64], [.i .u64]]) (by kernel_rfl) (⟨rfl, flat5, ⟨rfl, flat3, ⟨rfl, flat32, ⟨rfl, flat28, trivial⟩⟩⟩⟩) rfl

set_option maxRecDepth 100000 in
theorem lifted (os : Os) (started : os.Started) (H : Type) (enc : TypeId × Value → H) :
    ReturnsInHanded {} Tryz.checked os 3 .any (Rows.virtPlaysSpec.pre6 enc Tryz.prog Tryz.f3 Rows.virtPlaysRow.domain false) (Rows.virtPlaysSpec.post enc Tryz.prog Tryz.f3 false true false false) := by
  refine returnsInHanded_of_change (C := Tryz.checked) own started (by kernel_rfl) Tryz.func3
    (ChangeSpec.witness6 (enc := enc) (C := Tryz.checked) false ⟨#[], #[.slice none 0 0, .int .i64 0], []⟩ 40 (by kernel_rfl) (by kernel_rfl) (by kernel_rfl) (by kernel_rfl)) ?_
  intro W base args ds gs before hval0 hW hcnd _
  have hval : ∀ (j : Nat) t v, Tryz.f3.params[j]? = some t → args[j]? = some v → Value.okWide Tryz.prog W .any base t v := hval0
  have hW' := hW
  obtain ⟨p, q, hAll0, hV, rfl, hfz, hnd⟩ := hW
  have hA : DataW.TrodAll enc Tryz.prog W 0 (fun _ => true) true Tryz.f3.params.toList args.toList ds p := hAll0
  rw [Tryz.params3] at hA hval
  obtain ⟨v0, vs0, d0, ds0, p0, q0, hargs, rfl, rfl, h0, r0⟩ := trodAll_cons hA
  obtain ⟨v1, vs1, d1, ds1, p1, q1, rfl, rfl, rfl, h1, r1⟩ := trodAll_cons r0
  obtain ⟨rfl, rfl, rfl⟩ := trodAll_nil r1
  obtain rfl : args = #[v0, v1] := by cases args; simp_all
  obtain ⟨rfl, rfl⟩ := trodVars_none hV
  have k0 := h0
  have lt0 : ∀ x ∈ p0, x.block < W.heap.size := by obtain ⟨m, hm⟩ := k0; exact DataW.trod_lt m _ _ _ hm
  obtain ⟨A0, n0, c0, rfl⟩ := okWide_slice (show Tryz.prog.underlying 22 = some (.slice 34) by kernel_rfl) (hval 0 22 v0 rfl rfl)
  obtain ⟨fu0, hf0⟩ := h0
  obtain ⟨A', n', c', hcs0, hl0, hm0, hA0, hc0⟩ := open_flats (show Tryz.prog.underlying 22 = some (.slice 34) by kernel_rfl) flat34 (by decide) hf0
  simp [Value.cells] at hcs0
  obtain ⟨rfl, rfl, rfl⟩ := hcs0
  obtain ⟨F0_0, g0_0⟩ := column_int fun i hi => hc0 i hi 0 _ rfl
  obtain ⟨F0_1, g0_1⟩ := column_int fun i hi => hc0 i hi 1 _ rfl
  obtain ⟨F0_2, g0_2⟩ := column_int fun i hi => hc0 i hi 2 _ rfl
  obtain ⟨F0_3, g0_3⟩ := column_int fun i hi => hc0 i hi 3 _ rfl
  obtain ⟨F0_4, g0_4⟩ := column_int fun i hi => hc0 i hi 4 _ rfl
  obtain ⟨F0_5, g0_5⟩ := column_int fun i hi => hc0 i hi 5 _ rfl
  have k1 := h1
  have lt1 : ∀ x ∈ p1, x.block < W.heap.size := by obtain ⟨m, hm⟩ := k1; exact DataW.trod_lt m _ _ _ hm
  obtain ⟨a1, rfl, rfl, rfl, f1⟩ := open_int (k := .i64) (by kernel_rfl) (hval 1 3 v1 rfl rfl) h1
  clear hAll0 hval0
  refine (virtPlays_walk W A0 n0 c0 F0_0 (fun i hi => (g0_0 i hi).1) F0_1 (fun i hi => (g0_1 i hi).1) F0_2 (fun i hi => (g0_2 i hi).1) F0_3 (fun i hi => (g0_3 i hi).1) F0_4 (fun i hi => (g0_4 i hi).1) F0_5 (fun i hi => (g0_5 i hi).1) hl0 hm0 hA0 (fun b off hb i hi => (g0_0 i hi).2 b off hb) (fun b off hb i hi => (g0_1 i hi).2 b off hb) (fun b off hb i hi => (g0_2 i hi).2 b off hb) (fun b off hb i hi => (g0_3 i hi).2 b off hb) (fun b off hb i hi => (g0_4 i hi).2 b off hb) (fun b off hb i hi => (g0_5 i hi).2 b off hb) a1 f1).mono fun e W' ⟨he, bel⟩ => ?_
  subst he
  exact ⟨_, rfl, _, _, _, [], _, [], hW', trodAll_mk1 (shut_bool (show Tryz.prog.underlying 4 = some .bool by kernel_rfl) _), (trodAll_cons_mk (Below.trod laidOut (by kernel_rfl) (of_decide_eq_true (by kernel_rfl)) k0 bel lt0) (trodAll_cons_mk (Below.trod laidOut (by kernel_rfl) (of_decide_eq_true (by kernel_rfl)) k1 bel lt1) trodAll_mk0)), rfl, bel.frame _, fun h => by cases h⟩

theorem over : Rows.virtPlaysRow.holds Tryz.pinned (OpenSpec.ofChange Rows.virtPlaysSpec) :=
  OpenClaim.holds_of_wide 3 Tryz.f3 rfl rfl rfl rfl rfl rfl rfl ⟨rfl, rfl, rfl, rfl, rfl⟩ rfl rfl rfl rfl rfl (by kernel_rfl) Tryz.func3 (by kernel_rfl)
    (of_decide_eq_true (by kernel_rfl)) (by unfold Func.isWrapper; first | (rw [if_pos (by decide +kernel)]; kernel_rfl) | (rw [if_neg (by decide +kernel)]; exact ⟨rfl, rfl⟩))
    (fun os started H enc _ => lifted os started H enc)

/-- The statement. -/
theorem proved : Rows.VirtPlaysSaid := over
#print axioms proved
end Go.Proofs.YtjhffbhjiflfeaaGreat.virtPlaysProof
