/-
  The statement VirtFairSaid is proved: for every input the law returns true and leaves its arguments as they read. No condition of ours.
-/
import Derived.Test.YtjhffbhjiflfeaaGreatRows
import Derived.Test.YtjhffbhjiflfeaaGreatOpen
import Derived.Test.YtjhffbhjiflfeaaGreatVirtFb
namespace Go.Proofs.YtjhffbhjiflfeaaGreat.virtFairProof
open Go.ChangeShapes Go.WideShapes Go.ChangeAt Go.RowKit
open Go.ChangeMaps (open_string shut_string)
set_option linter.unusedVariables false
set_option linter.unusedSimpArgs false

theorem own : ownKnob Tryz.prog.godebug = none := by kernel_rfl
theorem laidOut : laidOutB Tryz.prog = true := by kernel_rfl

theorem flat54 : FlatT Tryz.prog 54 [.i .u16] := flat_int (by kernel_rfl) (by kernel_rfl)
theorem flat5 : FlatT Tryz.prog 5 [.i .u8] := flat_int (by kernel_rfl) (by kernel_rfl)
theorem flat3 : FlatT Tryz.prog 3 [.i .i64] := flat_int (by kernel_rfl) (by kernel_rfl)
noncomputable def structOf56 : Array Field := match Tryz.prog.underlying 56 with | some (.struct fs) => fs | _ => #[]
theorem underS56 : Tryz.prog.underlying 56 = some (.struct structOf56) := by kernel_rfl
theorem sees56 : (structOf56.toList.map fun f => (f.type, f.offset)) = [(5, 0), (3, 1), (54, 2), (54, 3)] := by kernel_rfl
theorem flat56 : FlatT Tryz.prog 56 [.i .u8, .i .i64, .i .u16, .i .u16] := flat_seen underS56 sees56 (kss := [[.i .u8], [.i .i64], [.i .u16], [.i .u16]]) (by kernel_rfl) (⟨rfl, flat5, ⟨rfl, flat3, ⟨rfl, flat54, ⟨rfl, flat54, trivial⟩⟩⟩⟩) rfl

set_option maxRecDepth 100000 in
theorem lifted (os : Os) (started : os.Started) (H : Type) (enc : TypeId × Value → H) :
    ReturnsInHanded {} Tryz.checked os 5 .any (Rows.virtFairSpec.pre6 enc Tryz.prog Tryz.f5 Rows.virtFairRow.domain false) (Rows.virtFairSpec.post enc Tryz.prog Tryz.f5 false true false false) := by
  refine returnsInHanded_of_change (C := Tryz.checked) own started (by kernel_rfl) Tryz.func5
    (ChangeSpec.witness6 (enc := enc) (C := Tryz.checked) false ⟨#[], #[.slice none 0 0, .slice none 0 0, .int .u8 0, .int .u8 0], []⟩ 40 (by kernel_rfl) (by kernel_rfl) (by kernel_rfl) (by kernel_rfl)) ?_
  intro W base args ds gs before hval0 hW hcnd _
  have hval : ∀ (j : Nat) t v, Tryz.f5.params[j]? = some t → args[j]? = some v → Value.okWide Tryz.prog W .any base t v := hval0
  have hW' := hW
  obtain ⟨p, q, hAll0, hV, rfl, hfz, hnd⟩ := hW
  have hA : DataW.TrodAll enc Tryz.prog W 0 (fun _ => true) true Tryz.f5.params.toList args.toList ds p := hAll0
  rw [Tryz.params5] at hA hval
  obtain ⟨v0, vs0, d0, ds0, p0, q0, hargs, rfl, rfl, h0, r0⟩ := trodAll_cons hA
  obtain ⟨v1, vs1, d1, ds1, p1, q1, rfl, rfl, rfl, h1, r1⟩ := trodAll_cons r0
  obtain ⟨v2, vs2, d2, ds2, p2, q2, rfl, rfl, rfl, h2, r2⟩ := trodAll_cons r1
  obtain ⟨v3, vs3, d3, ds3, p3, q3, rfl, rfl, rfl, h3, r3⟩ := trodAll_cons r2
  obtain ⟨rfl, rfl, rfl⟩ := trodAll_nil r3
  obtain rfl : args = #[v0, v1, v2, v3] := by cases args; simp_all
  obtain ⟨rfl, rfl⟩ := trodVars_none hV
  have k0 := h0
  have lt0 : ∀ x ∈ p0, x.block < W.heap.size := by obtain ⟨m, hm⟩ := k0; exact DataW.trod_lt m _ _ _ hm
  obtain ⟨A0, n0, c0, rfl⟩ := okWide_slice (show Tryz.prog.underlying 51 = some (.slice 54) by kernel_rfl) (hval 0 51 v0 rfl rfl)
  obtain ⟨fu0, hf0⟩ := h0
  obtain ⟨A', n', c', hcs0, hl0, hm0, hA0, hc0⟩ := open_flats (show Tryz.prog.underlying 51 = some (.slice 54) by kernel_rfl) flat54 (by decide) hf0
  simp [Value.cells] at hcs0
  obtain ⟨rfl, rfl, rfl⟩ := hcs0
  obtain ⟨F0_0, g0_0⟩ := column_int fun i hi => hc0 i hi 0 _ rfl
  have k1 := h1
  have lt1 : ∀ x ∈ p1, x.block < W.heap.size := by obtain ⟨m, hm⟩ := k1; exact DataW.trod_lt m _ _ _ hm
  obtain ⟨A1, n1, c1, rfl⟩ := okWide_slice (show Tryz.prog.underlying 52 = some (.slice 56) by kernel_rfl) (hval 1 52 v1 rfl rfl)
  obtain ⟨fu1, hf1⟩ := h1
  obtain ⟨A', n', c', hcs1, hl1, hm1, hA1, hc1⟩ := open_flats (show Tryz.prog.underlying 52 = some (.slice 56) by kernel_rfl) flat56 (by decide) hf1
  simp [Value.cells] at hcs1
  obtain ⟨rfl, rfl, rfl⟩ := hcs1
  obtain ⟨F1_0, g1_0⟩ := column_int fun i hi => hc1 i hi 0 _ rfl
  obtain ⟨F1_1, g1_1⟩ := column_int fun i hi => hc1 i hi 1 _ rfl
  obtain ⟨F1_2, g1_2⟩ := column_int fun i hi => hc1 i hi 2 _ rfl
  obtain ⟨F1_3, g1_3⟩ := column_int fun i hi => hc1 i hi 3 _ rfl
  have k2 := h2
  have lt2 : ∀ x ∈ p2, x.block < W.heap.size := by obtain ⟨m, hm⟩ := k2; exact DataW.trod_lt m _ _ _ hm
  obtain ⟨a2, rfl, rfl, rfl, f2⟩ := open_int (k := .u8) (by kernel_rfl) (hval 2 5 v2 rfl rfl) h2
  have k3 := h3
  have lt3 : ∀ x ∈ p3, x.block < W.heap.size := by obtain ⟨m, hm⟩ := k3; exact DataW.trod_lt m _ _ _ hm
  obtain ⟨a3, rfl, rfl, rfl, f3⟩ := open_int (k := .u8) (by kernel_rfl) (hval 3 5 v3 rfl rfl) h3
  clear hAll0 hval0
  refine (virtFair_walk W A0 n0 c0 F0_0 (fun i hi => (g0_0 i hi).1) hl0 hm0 hA0 (fun b off hb i hi => (g0_0 i hi).2 b off hb) A1 n1 c1 F1_0 (fun i hi => (g1_0 i hi).1) F1_1 (fun i hi => (g1_1 i hi).1) F1_2 (fun i hi => (g1_2 i hi).1) F1_3 (fun i hi => (g1_3 i hi).1) hl1 hm1 hA1 (fun b off hb i hi => (g1_0 i hi).2 b off hb) (fun b off hb i hi => (g1_1 i hi).2 b off hb) (fun b off hb i hi => (g1_2 i hi).2 b off hb) (fun b off hb i hi => (g1_3 i hi).2 b off hb) a2 f2 a3 f3).mono fun e W' ⟨he, bel⟩ => ?_
  subst he
  exact ⟨_, rfl, _, _, _, [], _, [], hW', trodAll_mk1 (shut_bool (show Tryz.prog.underlying 4 = some .bool by kernel_rfl) _), (trodAll_cons_mk (Below.trod laidOut (by kernel_rfl) (of_decide_eq_true (by kernel_rfl)) k0 bel lt0) (trodAll_cons_mk (Below.trod laidOut (by kernel_rfl) (of_decide_eq_true (by kernel_rfl)) k1 bel lt1) (trodAll_cons_mk (Below.trod laidOut (by kernel_rfl) (of_decide_eq_true (by kernel_rfl)) k2 bel lt2) (trodAll_cons_mk (Below.trod laidOut (by kernel_rfl) (of_decide_eq_true (by kernel_rfl)) k3 bel lt3) trodAll_mk0)))), rfl, bel.frame _, fun h => by cases h⟩

theorem over : Rows.virtFairRow.holds Tryz.pinned (OpenSpec.ofChange Rows.virtFairSpec) :=
  OpenClaim.holds_of_wide 5 Tryz.f5 rfl rfl rfl rfl rfl rfl rfl ⟨rfl, rfl, rfl, rfl, rfl⟩ rfl rfl rfl rfl rfl (by kernel_rfl) Tryz.func5 (by kernel_rfl)
    (of_decide_eq_true (by kernel_rfl)) (by unfold Func.isWrapper; first | (rw [if_pos (by decide +kernel)]; kernel_rfl) | (rw [if_neg (by decide +kernel)]; exact ⟨rfl, rfl⟩))
    (fun os started H enc _ => lifted os started H enc)

/-- The statement. -/
theorem proved : Rows.VirtFairSaid := over
#print axioms proved
end Go.Proofs.YtjhffbhjiflfeaaGreat.virtFairProof
