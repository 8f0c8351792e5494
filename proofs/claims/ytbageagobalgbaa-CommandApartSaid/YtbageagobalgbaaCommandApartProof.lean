/-
  The statement CommandApartSaid is proved: for every input the law returns true and leaves its arguments as they read. No condition of ours.
-/
import Derived.Test.YtbageagobalgbaaRows
import Derived.Test.YtbageagobalgbaaOpen
import Derived.Test.YtbageagobalgbaaCommandApart
namespace Go.Proofs.Ytbageagobalgbaa.commandApartProof
open Go.ChangeShapes Go.WideShapes Go.ChangeAt Go.RowKit
open Go.ChangeMaps (open_string shut_string)
set_option linter.unusedVariables false
set_option linter.unusedSimpArgs false

theorem own : ownKnob Try.prog.godebug = none := by kernel_rfl
theorem laidOut : laidOutB Try.prog = true := by kernel_rfl

theorem flat5 : FlatT Try.prog 5 [.i .u8] := flat_int (by kernel_rfl) (by kernel_rfl)
theorem flat22 : FlatT Try.prog 22 [.i .u64] := flat_int (by kernel_rfl) (by kernel_rfl)
theorem flat3 : FlatT Try.prog 3 [.i .i64] := flat_int (by kernel_rfl) (by kernel_rfl)
noncomputable def structOf24 : Array Field := match Try.prog.underlying 24 with | some (.struct fs) => fs | _ => #[]
theorem underS24 : Try.prog.underlying 24 = some (.struct structOf24) := by kernel_rfl
theorem sees24 : (structOf24.toList.map fun f => (f.type, f.offset)) = [(22, 0), (3, 1), (22, 2)] := by kernel_rfl
theorem flat24 : FlatT Try.prog 24 [.i .u64, .i .i64, .i .u64] := flat_seen underS24 sees24 (kss := [[.i .u64], [.i .i64], [.i .u64]]) (by kernel_rfl) (⟨rfl, flat22, ⟨rfl, flat3, ⟨rfl, flat22, trivial⟩⟩⟩) rfl
theorem flat4 : FlatT Try.prog 4 [.b] := flat_bool (by kernel_rfl) (by kernel_rfl)
noncomputable def structOf26 : Array Field := match Try.prog.underlying 26 with | some (.struct fs) => fs | _ => #[]
theorem underS26 : Try.prog.underlying 26 = some (.struct structOf26) := by kernel_rfl
theorem sees26 : (structOf26.toList.map fun f => (f.type, f.offset)) = [(22, 0), (22, 1), (22, 2)] := by kernel_rfl
theorem flat26 : FlatT Try.prog 26 [.i .u64, .i .u64, .i .u64] := flat_seen underS26 sees26 (kss := [[.i .u64], [.i .u64], [.i .u64]]) (by kernel_rfl) (⟨rfl, flat22, ⟨rfl, flat22, ⟨rfl, flat22, trivial⟩⟩⟩) rfl
noncomputable def structOf28 : Array Field := match Try.prog.underlying 28 with | some (.struct fs) => fs | _ => #[]
theorem underS28 : Try.prog.underlying 28 = some (.struct structOf28) := by kernel_rfl
theorem sees28 : (structOf28.toList.map fun f => (f.type, f.offset)) = [(3, 0), (3, 1), (4, 2), (26, 3), (26, 6), (26, 9), (3, 12), (3, 13)] := by kernel_rfl
theorem flat28 : FlatT Try.prog 28 [.i .i64, .i .i64, .b, .i .u64, .i .u64, .i .u64, .i .u64, .i .u64, .i .u64, .i .u64, .i .u64, .i .u64, .i .i64, .i .i64] := flat_seen underS28 sees28 (kss := [[.i .i64], [.i .i64], [.b], [.i .u64, .i .u64, .i .u64], [.i .u64, .i .u64, .i .u64], [.i .u64, .i .u64, .i .u64], [.i .i64], [.i .i64]]) (by kernel_rfl) (⟨rfl, flat3, ⟨rfl, flat3, ⟨rfl, flat4, ⟨rfl, flat26, ⟨rfl, flat26, ⟨rfl, flat26, ⟨rfl, flat3, ⟨rfl, flat3, trivial⟩⟩⟩⟩⟩⟩⟩⟩) rfl
noncomputable def structOf30 : Array Field := match Try.prog.underlying 30 with | some (.struct fs) => fs | _ => #[]
theorem underS30 : Try.prog.underlying 30 = some (.struct structOf30) := by kernel_rfl
theorem sees30 : (structOf30.toList.map fun f => (f.type, f.offset)) = [(22, 0), (3, 1), (3, 2), (22, 3)] := by kernel_rfl
theorem flat30 : FlatT Try.prog 30 [.i .u64, .i .i64, .i .i64, .i .u64] := flat_seen underS30 sees30 (kss := [[.i .u64], [.i .i64], [.i .i64], [.i .u64]]) (by kernel_rfl) (⟨rfl, flat22, ⟨rfl, flat3, ⟨rfl, flat3, ⟨rfl, flat22, trivial⟩⟩⟩⟩) rfl
noncomputable def structOf32 : Array Field := match Try.prog.underlying 32 with | some (.struct fs) => fs | _ => #[]
theorem underS32 : Try.prog.underlying 32 = some (.struct structOf32) := by kernel_rfl
theorem sees32 : (structOf32.toList.map fun f => (f.type, f.offset)) = [(5, 0), (24, 1), (28, 4), (3, 18), (30, 19), (22, 23)] := by kernel_rfl
theorem flat32 : FlatT Try.prog 32 [.i .u8, .i .u64, .i .i64, .i .u64, .i .i64, .i .i64, .b, .i .u64, .i .u64, .i .u64, .i .u64, .i .u64, .i .u64, .i .u64, .i .u64, .i .u64, .i .i64, .i .i64, .i .i64, .i .u64, .i .i64, .i .i64, .i .u64, .i .u64] := flat_seen underS32 sees32 (kss := [[.i .u8], [.i .u64, .i .i64, .i .u64], [.i .i64, .i .i64, .b, .i .u64, .i .u64, .i .u64, .i .u64, .i .u64, .i .u64, .i .u64, .i .u64, .i .u64, .i .i64, .i .i64], [.i .i64], [.i .u64, .i .i64, .i .i64, .i .u64], [.i .u64]]) (by kernel_rfl) (⟨rfl, flat5, ⟨rfl, flat24, ⟨rfl, flat28, ⟨rfl, flat3, ⟨rfl, flat30, ⟨rfl, flat22, trivial⟩⟩⟩⟩⟩⟩) rfl
theorem flat33 : FlatT Try.prog 33 [.i .i64] := flat_int (by kernel_rfl) (by kernel_rfl)
noncomputable def structOf39 : Array Field := match Try.prog.underlying 39 with | some (.struct fs) => fs | _ => #[]
theorem underS39 : Try.prog.underlying 39 = some (.struct structOf39) := by kernel_rfl
theorem sees39 : (structOf39.toList.map fun f => (f.type, f.offset)) = [(22, 0), (22, 1), (22, 2), (22, 3), (22, 4), (22, 5), (22, 6), (22, 7)] := by kernel_rfl
theorem flat39 : FlatT Try.prog 39 [.i .u64, .i .u64, .i .u64, .i .u64, .i .u64, .i .u64, .i .u64, .i .u64] := flat_seen underS39 sees39 (kss := [[.i .u64], [.i .u64], [.i .u64], [.i .u64], [.i .u64], [.i .u64], [.i .u64], [.i .u64]]) (by kernel_rfl) (⟨rfl, flat22, ⟨rfl, flat22, ⟨rfl, flat22, ⟨rfl, flat22, ⟨rfl, flat22, ⟨rfl, flat22, ⟨rfl, flat22, ⟨rfl, flat22, trivial⟩⟩⟩⟩⟩⟩⟩⟩) rfl
noncomputable def structOf41 : Array Field := match Try.prog.underlying 41 with | some (.struct fs) => fs | _ => #[]
theorem underS41 : Try.prog.underlying 41 = some (.struct structOf41) := by kernel_rfl
theorem sees41 : (structOf41.toList.map fun f => (f.type, f.offset)) = [(33, 0), (22, 1), (39, 2)] := by kernel_rfl
theorem flat41 : FlatT Try.prog 41 [.i .i64, .i .u64, .i .u64, .i .u64, .i .u64, .i .u64, .i .u64, .i .u64, .i .u64, .i .u64] := flat_seen underS41 sees41 (kss := [[.i .i64], [.i .u64], [.i .u64, .i .u64, .i .u64, .i .u64, .i .u64, .i .u64, .i .u64, .i .u64]]) (by kernel_rfl) (⟨rfl, flat33, ⟨rfl, flat22, ⟨rfl, flat39, trivial⟩⟩⟩) rfl

set_option maxRecDepth 100000 in
theorem lifted (os : Os) (started : os.Started) (H : Type) (enc : TypeId × Value → H) :
    ReturnsInHanded {} Try.checked os 6 .any (Rows.commandApartSpec.pre6 enc Try.prog Try.f6 Rows.commandApartRow.domain false) (Rows.commandApartSpec.post enc Try.prog Try.f6 false true false false) := by
  refine returnsInHanded_of_change (C := Try.checked) own started (by kernel_rfl) Try.func6
    (ChangeSpec.witness6 (enc := enc) (C := Try.checked) false ⟨#[], #[.agg #[.int .u8 0, .int .u64 0, .int .i64 0, .int .u64 0, .int .i64 0, .int .i64 0, .bool false, .int .u64 0, .int .u64 0, .int .u64 0, .int .u64 0, .int .u64 0, .int .u64 0, .int .u64 0, .int .u64 0, .int .u64 0, .int .i64 0, .int .i64 0, .int .i64 0, .int .u64 0, .int .i64 0, .int .i64 0, .int .u64 0, .int .u64 0], .agg #[.int .u8 0, .int .u64 0, .int .i64 0, .int .u64 0, .int .i64 0, .int .i64 0, .bool false, .int .u64 0, .int .u64 0, .int .u64 0, .int .u64 0, .int .u64 0, .int .u64 0, .int .u64 0, .int .u64 0, .int .u64 0, .int .i64 0, .int .i64 0, .int .i64 0, .int .u64 0, .int .i64 0, .int .i64 0, .int .u64 0, .int .u64 0], .agg #[.int .i64 0, .int .u64 0, .int .u64 0, .int .u64 0, .int .u64 0, .int .u64 0, .int .u64 0, .int .u64 0, .int .u64 0, .int .u64 0], .agg #[.int .i64 0, .int .u64 0, .int .u64 0, .int .u64 0, .int .u64 0, .int .u64 0, .int .u64 0, .int .u64 0, .int .u64 0, .int .u64 0]], []⟩ 40 (by kernel_rfl) (by kernel_rfl) (by kernel_rfl) (by kernel_rfl)) ?_
  intro W base args ds gs before hval0 hW hcnd _
  have hval : ∀ (j : Nat) t v, Try.f6.params[j]? = some t → args[j]? = some v → Value.okWide Try.prog W .any base t v := hval0
  have hW' := hW
  obtain ⟨p, q, hAll0, hV, rfl, hfz, hnd⟩ := hW
  have hA : DataW.TrodAll enc Try.prog W 0 (fun _ => true) true Try.f6.params.toList args.toList ds p := hAll0
  rw [Try.params6] at hA hval
  obtain ⟨v0, vs0, d0, ds0, p0, q0, hargs, rfl, rfl, h0, r0⟩ := trodAll_cons hA
  obtain ⟨v1, vs1, d1, ds1, p1, q1, rfl, rfl, rfl, h1, r1⟩ := trodAll_cons r0
  obtain ⟨v2, vs2, d2, ds2, p2, q2, rfl, rfl, rfl, h2, r2⟩ := trodAll_cons r1
  obtain ⟨v3, vs3, d3, ds3, p3, q3, rfl, rfl, rfl, h3, r3⟩ := trodAll_cons r2
  obtain ⟨rfl, rfl, rfl⟩ := trodAll_nil r3
  obtain rfl : args = #[v0, v1, v2, v3] := by cases args; simp_all
  obtain ⟨rfl, rfl⟩ := trodVars_none hV
  have k0 := h0
  have lt0 : ∀ x ∈ p0, x.block < W.heap.size := by obtain ⟨m, hm⟩ := k0; exact DataW.trod_lt m _ _ _ hm
  obtain ⟨cs0, rfl, len0, get0⟩ := open_flat underS32 flat32 (hval 0 32 v0 rfl rfl) h0
  obtain ⟨_, e0_0, a0_0, rfl, f0_0⟩ := get0 0 _ rfl
  obtain ⟨_, e0_1, a0_1, rfl, f0_1⟩ := get0 1 _ rfl
  obtain ⟨_, e0_2, a0_2, rfl, f0_2⟩ := get0 2 _ rfl
  obtain ⟨_, e0_3, a0_3, rfl, f0_3⟩ := get0 3 _ rfl
  obtain ⟨_, e0_4, a0_4, rfl, f0_4⟩ := get0 4 _ rfl
  obtain ⟨_, e0_5, a0_5, rfl, f0_5⟩ := get0 5 _ rfl
  obtain ⟨_, e0_6, a0_6, rfl⟩ := get0 6 _ rfl
  obtain ⟨_, e0_7, a0_7, rfl, f0_7⟩ := get0 7 _ rfl
  obtain ⟨_, e0_8, a0_8, rfl, f0_8⟩ := get0 8 _ rfl
  obtain ⟨_, e0_9, a0_9, rfl, f0_9⟩ := get0 9 _ rfl
  obtain ⟨_, e0_10, a0_10, rfl, f0_10⟩ := get0 10 _ rfl
  obtain ⟨_, e0_11, a0_11, rfl, f0_11⟩ := get0 11 _ rfl
  obtain ⟨_, e0_12, a0_12, rfl, f0_12⟩ := get0 12 _ rfl
  obtain ⟨_, e0_13, a0_13, rfl, f0_13⟩ := get0 13 _ rfl
  obtain ⟨_, e0_14, a0_14, rfl, f0_14⟩ := get0 14 _ rfl
  obtain ⟨_, e0_15, a0_15, rfl, f0_15⟩ := get0 15 _ rfl
  obtain ⟨_, e0_16, a0_16, rfl, f0_16⟩ := get0 16 _ rfl
  obtain ⟨_, e0_17, a0_17, rfl, f0_17⟩ := get0 17 _ rfl
  obtain ⟨_, e0_18, a0_18, rfl, f0_18⟩ := get0 18 _ rfl
  obtain ⟨_, e0_19, a0_19, rfl, f0_19⟩ := get0 19 _ rfl
  obtain ⟨_, e0_20, a0_20, rfl, f0_20⟩ := get0 20 _ rfl
  obtain ⟨_, e0_21, a0_21, rfl, f0_21⟩ := get0 21 _ rfl
  obtain ⟨_, e0_22, a0_22, rfl, f0_22⟩ := get0 22 _ rfl
  obtain ⟨_, e0_23, a0_23, rfl, f0_23⟩ := get0 23 _ rfl
  obtain rfl : cs0 = [.int .u8 a0_0, .int .u64 a0_1, .int .i64 a0_2, .int .u64 a0_3, .int .i64 a0_4, .int .i64 a0_5, .bool a0_6, .int .u64 a0_7, .int .u64 a0_8, .int .u64 a0_9, .int .u64 a0_10, .int .u64 a0_11, .int .u64 a0_12, .int .u64 a0_13, .int .u64 a0_14, .int .u64 a0_15, .int .i64 a0_16, .int .i64 a0_17, .int .i64 a0_18, .int .u64 a0_19, .int .i64 a0_20, .int .i64 a0_21, .int .u64 a0_22, .int .u64 a0_23] := by
    apply List.ext_getElem?
    intro i
    match i with
    | 0 => exact e0_0
    | 1 => exact e0_1
    | 2 => exact e0_2
    | 3 => exact e0_3
    | 4 => exact e0_4
    | 5 => exact e0_5
    | 6 => exact e0_6
    | 7 => exact e0_7
    | 8 => exact e0_8
    | 9 => exact e0_9
    | 10 => exact e0_10
    | 11 => exact e0_11
    | 12 => exact e0_12
    | 13 => exact e0_13
    | 14 => exact e0_14
    | 15 => exact e0_15
    | 16 => exact e0_16
    | 17 => exact e0_17
    | 18 => exact e0_18
    | 19 => exact e0_19
    | 20 => exact e0_20
    | 21 => exact e0_21
    | 22 => exact e0_22
    | 23 => exact e0_23
    | i + 24 => rw [List.getElem?_eq_none (by rw [len0]; simp), List.getElem?_eq_none (by simp)]
  have k1 := h1
  have lt1 : ∀ x ∈ p1, x.block < W.heap.size := by obtain ⟨m, hm⟩ := k1; exact DataW.trod_lt m _ _ _ hm
  obtain ⟨cs1, rfl, len1, get1⟩ := open_flat underS32 flat32 (hval 1 32 v1 rfl rfl) h1
  obtain ⟨_, e1_0, a1_0, rfl, f1_0⟩ := get1 0 _ rfl
  obtain ⟨_, e1_1, a1_1, rfl, f1_1⟩ := get1 1 _ rfl
  obtain ⟨_, e1_2, a1_2, rfl, f1_2⟩ := get1 2 _ rfl
  obtain ⟨_, e1_3, a1_3, rfl, f1_3⟩ := get1 3 _ rfl
  obtain ⟨_, e1_4, a1_4, rfl, f1_4⟩ := get1 4 _ rfl
  obtain ⟨_, e1_5, a1_5, rfl, f1_5⟩ := get1 5 _ rfl
  obtain ⟨_, e1_6, a1_6, rfl⟩ := get1 6 _ rfl
  obtain ⟨_, e1_7, a1_7, rfl, f1_7⟩ := get1 7 _ rfl
  obtain ⟨_, e1_8, a1_8, rfl, f1_8⟩ := get1 8 _ rfl
  obtain ⟨_, e1_9, a1_9, rfl, f1_9⟩ := get1 9 _ rfl
  obtain ⟨_, e1_10, a1_10, rfl, f1_10⟩ := get1 10 _ rfl
  obtain ⟨_, e1_11, a1_11, rfl, f1_11⟩ := get1 11 _ rfl
  obtain ⟨_, e1_12, a1_12, rfl, f1_12⟩ := get1 12 _ rfl
  obtain ⟨_, e1_13, a1_13, rfl, f1_13⟩ := get1 13 _ rfl
  obtain ⟨_, e1_14, a1_14, rfl, f1_14⟩ := get1 14 _ rfl
  obtain ⟨_, e1_15, a1_15, rfl, f1_15⟩ := get1 15 _ rfl
  obtain ⟨_, e1_16, a1_16, rfl, f1_16⟩ := get1 16 _ rfl
  obtain ⟨_, e1_17, a1_17, rfl, f1_17⟩ := get1 17 _ rfl
  obtain ⟨_, e1_18, a1_18, rfl, f1_18⟩ := get1 18 _ rfl
  obtain ⟨_, e1_19, a1_19, rfl, f1_19⟩ := get1 19 _ rfl
  obtain ⟨_, e1_20, a1_20, rfl, f1_20⟩ := get1 20 _ rfl
  obtain ⟨_, e1_21, a1_21, rfl, f1_21⟩ := get1 21 _ rfl
  obtain ⟨_, e1_22, a1_22, rfl, f1_22⟩ := get1 22 _ rfl
  obtain ⟨_, e1_23, a1_23, rfl, f1_23⟩ := get1 23 _ rfl
  obtain rfl : cs1 = [.int .u8 a1_0, .int .u64 a1_1, .int .i64 a1_2, .int .u64 a1_3, .int .i64 a1_4, .int .i64 a1_5, .bool a1_6, .int .u64 a1_7, .int .u64 a1_8, .int .u64 a1_9, .int .u64 a1_10, .int .u64 a1_11, .int .u64 a1_12, .int .u64 a1_13, .int .u64 a1_14, .int .u64 a1_15, .int .i64 a1_16, .int .i64 a1_17, .int .i64 a1_18, .int .u64 a1_19, .int .i64 a1_20, .int .i64 a1_21, .int .u64 a1_22, .int .u64 a1_23] := by
    apply List.ext_getElem?
    intro i
    match i with
    | 0 => exact e1_0
    | 1 => exact e1_1
    | 2 => exact e1_2
    | 3 => exact e1_3
    | 4 => exact e1_4
    | 5 => exact e1_5
    | 6 => exact e1_6
    | 7 => exact e1_7
    | 8 => exact e1_8
    | 9 => exact e1_9
    | 10 => exact e1_10
    | 11 => exact e1_11
    | 12 => exact e1_12
    | 13 => exact e1_13
    | 14 => exact e1_14
    | 15 => exact e1_15
    | 16 => exact e1_16
    | 17 => exact e1_17
    | 18 => exact e1_18
    | 19 => exact e1_19
    | 20 => exact e1_20
    | 21 => exact e1_21
    | 22 => exact e1_22
    | 23 => exact e1_23
    | i + 24 => rw [List.getElem?_eq_none (by rw [len1]; simp), List.getElem?_eq_none (by simp)]
  have k2 := h2
  have lt2 : ∀ x ∈ p2, x.block < W.heap.size := by obtain ⟨m, hm⟩ := k2; exact DataW.trod_lt m _ _ _ hm
  obtain ⟨cs2, rfl, len2, get2⟩ := open_flat underS41 flat41 (hval 2 41 v2 rfl rfl) h2
  obtain ⟨_, e2_0, a2_0, rfl, f2_0⟩ := get2 0 _ rfl
  obtain ⟨_, e2_1, a2_1, rfl, f2_1⟩ := get2 1 _ rfl
  obtain ⟨_, e2_2, a2_2, rfl, f2_2⟩ := get2 2 _ rfl
  obtain ⟨_, e2_3, a2_3, rfl, f2_3⟩ := get2 3 _ rfl
  obtain ⟨_, e2_4, a2_4, rfl, f2_4⟩ := get2 4 _ rfl
  obtain ⟨_, e2_5, a2_5, rfl, f2_5⟩ := get2 5 _ rfl
  obtain ⟨_, e2_6, a2_6, rfl, f2_6⟩ := get2 6 _ rfl
  obtain ⟨_, e2_7, a2_7, rfl, f2_7⟩ := get2 7 _ rfl
  obtain ⟨_, e2_8, a2_8, rfl, f2_8⟩ := get2 8 _ rfl
  obtain ⟨_, e2_9, a2_9, rfl, f2_9⟩ := get2 9 _ rfl
  obtain rfl : cs2 = [.int .i64 a2_0, .int .u64 a2_1, .int .u64 a2_2, .int .u64 a2_3, .int .u64 a2_4, .int .u64 a2_5, .int .u64 a2_6, .int .u64 a2_7, .int .u64 a2_8, .int .u64 a2_9] := by
    apply List.ext_getElem?
    intro i
    match i with
    | 0 => exact e2_0
    | 1 => exact e2_1
    | 2 => exact e2_2
    | 3 => exact e2_3
    | 4 => exact e2_4
    | 5 => exact e2_5
    | 6 => exact e2_6
    | 7 => exact e2_7
    | 8 => exact e2_8
    | 9 => exact e2_9
    | i + 10 => rw [List.getElem?_eq_none (by rw [len2]; simp), List.getElem?_eq_none (by simp)]
  have k3 := h3
  have lt3 : ∀ x ∈ p3, x.block < W.heap.size := by obtain ⟨m, hm⟩ := k3; exact DataW.trod_lt m _ _ _ hm
  obtain ⟨cs3, rfl, len3, get3⟩ := open_flat underS41 flat41 (hval 3 41 v3 rfl rfl) h3
  obtain ⟨_, e3_0, a3_0, rfl, f3_0⟩ := get3 0 _ rfl
  obtain ⟨_, e3_1, a3_1, rfl, f3_1⟩ := get3 1 _ rfl
  obtain ⟨_, e3_2, a3_2, rfl, f3_2⟩ := get3 2 _ rfl
  obtain ⟨_, e3_3, a3_3, rfl, f3_3⟩ := get3 3 _ rfl
  obtain ⟨_, e3_4, a3_4, rfl, f3_4⟩ := get3 4 _ rfl
  obtain ⟨_, e3_5, a3_5, rfl, f3_5⟩ := get3 5 _ rfl
  obtain ⟨_, e3_6, a3_6, rfl, f3_6⟩ := get3 6 _ rfl
  obtain ⟨_, e3_7, a3_7, rfl, f3_7⟩ := get3 7 _ rfl
  obtain ⟨_, e3_8, a3_8, rfl, f3_8⟩ := get3 8 _ rfl
  obtain ⟨_, e3_9, a3_9, rfl, f3_9⟩ := get3 9 _ rfl
  obtain rfl : cs3 = [.int .i64 a3_0, .int .u64 a3_1, .int .u64 a3_2, .int .u64 a3_3, .int .u64 a3_4, .int .u64 a3_5, .int .u64 a3_6, .int .u64 a3_7, .int .u64 a3_8, .int .u64 a3_9] := by
    apply List.ext_getElem?
    intro i
    match i with
    | 0 => exact e3_0
    | 1 => exact e3_1
    | 2 => exact e3_2
    | 3 => exact e3_3
    | 4 => exact e3_4
    | 5 => exact e3_5
    | 6 => exact e3_6
    | 7 => exact e3_7
    | 8 => exact e3_8
    | 9 => exact e3_9
    | i + 10 => rw [List.getElem?_eq_none (by rw [len3]; simp), List.getElem?_eq_none (by simp)]
  clear hAll0 hval0
  refine (commandApart_walk W a0_0 f0_0 a0_1 f0_1 a0_2 f0_2 a0_3 f0_3 a0_4 f0_4 a0_5 f0_5 a0_6 a0_7 f0_7 a0_8 f0_8 a0_9 f0_9 a0_10 f0_10 a0_11 f0_11 a0_12 f0_12 a0_13 f0_13 a0_14 f0_14 a0_15 f0_15 a0_16 f0_16 a0_17 f0_17 a0_18 f0_18 a0_19 f0_19 a0_20 f0_20 a0_21 f0_21 a0_22 f0_22 a0_23 f0_23 a1_0 f1_0 a1_1 f1_1 a1_2 f1_2 a1_3 f1_3 a1_4 f1_4 a1_5 f1_5 a1_6 a1_7 f1_7 a1_8 f1_8 a1_9 f1_9 a1_10 f1_10 a1_11 f1_11 a1_12 f1_12 a1_13 f1_13 a1_14 f1_14 a1_15 f1_15 a1_16 f1_16 a1_17 f1_17 a1_18 f1_18 a1_19 f1_19 a1_20 f1_20 a1_21 f1_21 a1_22 f1_22 a1_23 f1_23 a2_0 f2_0 a2_1 f2_1 a2_2 f2_2 a2_3 f2_3 a2_4 f2_4 a2_5 f2_5 a2_6 f2_6 a2_7 f2_7 a2_8 f2_8 a2_9 f2_9 a3_0 f3_0 a3_1 f3_1 a3_2 f3_2 a3_3 f3_3 a3_4 f3_4 a3_5 f3_5 a3_6 f3_6 a3_7 f3_7 a3_8 f3_8 a3_9 f3_9).mono fun e W' ⟨he, bel⟩ => ?_
  subst he
  exact ⟨_, rfl, _, _, _, [], _, [], hW', trodAll_mk1 (shut_bool (show Try.prog.underlying 4 = some .bool by kernel_rfl) _), (trodAll_cons_mk (Below.trod laidOut (by kernel_rfl) (of_decide_eq_true (by kernel_rfl)) k0 bel lt0) (trodAll_cons_mk (Below.trod laidOut (by kernel_rfl) (of_decide_eq_true (by kernel_rfl)) k1 bel lt1) (trodAll_cons_mk (Below.trod laidOut (by kernel_rfl) (of_decide_eq_true (by kernel_rfl)) k2 bel lt2) (trodAll_cons_mk (Below.trod laidOut (by kernel_rfl) (of_decide_eq_true (by kernel_rfl)) k3 bel lt3) trodAll_mk0)))), rfl, bel.frame _, fun h => by cases h⟩

theorem over : Rows.commandApartRow.holds Try.pinned (OpenSpec.ofChange Rows.commandApartSpec) :=
  OpenClaim.holds_of_wide 6 Try.f6 rfl rfl rfl rfl rfl rfl rfl ⟨rfl, rfl, rfl, rfl, rfl⟩ rfl rfl rfl rfl rfl (by kernel_rfl) Try.func6 (by kernel_rfl)
    (of_decide_eq_true (by kernel_rfl)) (by unfold Func.isWrapper; first | (rw [if_pos (by decide +kernel)]; kernel_rfl) | (rw [if_neg (by decide +kernel)]; exact ⟨rfl, rfl⟩))
    (fun os started H enc _ => lifted os started H enc)

/-- The statement. -/
theorem proved : Rows.CommandApartSaid := over
#print axioms proved
end Go.Proofs.Ytbageagobalgbaa.commandApartProof
