/-
  The statement LinkAloneSaid is proved: for every input the law returns true and leaves its arguments as they read. No condition of ours.
-/
import Derived.Test.YtmfikclnidbncaaRows
import Derived.Test.YtmfikclnidbncaaOpen
import Derived.Test.YtmfikclnidbncaaLinkAlone
namespace Go.Proofs.Ytmfikclnidbncaa.linkAloneProof
open Go.ChangeShapes Go.WideShapes Go.ChangeAt Go.RowKit
open Go.ChangeMaps (open_string shut_string)
set_option linter.unusedVariables false
set_option linter.unusedSimpArgs false

theorem own : ownKnob Try.prog.godebug = none := by kernel_rfl
theorem laidOut : laidOutB Try.prog = true := by kernel_rfl

theorem flat5 : FlatT Try.prog 5 [.i .u8] := flat_int (by kernel_rfl) (by kernel_rfl)
theorem flat22 : FlatT Try.prog 22 [.i .u64] := flat_int (by kernel_rfl) (by kernel_rfl)
theorem flat3 : FlatT Try.prog 3 [.i .i64] := flat_int (by kernel_rfl) (by kernel_rfl)
noncomputable def structOf52 : Array Field := match Try.prog.underlying 52 with | some (.struct fs) => fs | _ => #[]
theorem underS52 : Try.prog.underlying 52 = some (.struct structOf52) := by kernel_rfl
theorem sees52 : (structOf52.toList.map fun f => (f.type, f.offset)) = [(5, 0), (22, 1), (3, 2)] := by kernel_rfl
theorem flat52 : FlatT Try.prog 52 [.i .u8, .i .u64, .i .i64] := flat_seen underS52 sees52 (kss := [[.i .u8], [.i .u64], [.i .i64]]) (by kernel_rfl) (⟨rfl, flat5, ⟨rfl, flat22, ⟨rfl, flat3, trivial⟩⟩⟩) rfl

set_option maxRecDepth 100000 in
theorem lifted (os : Os) (started : os.Started) (H : Type) (enc : TypeId × Value → H) :
    ReturnsInHanded {} Try.checked os 7 .any (Rows.linkAloneSpec.pre6 enc Try.prog Try.f7 Rows.linkAloneRow.domain false) (Rows.linkAloneSpec.post enc Try.prog Try.f7 false true false false) := by
  refine returnsInHanded_of_change (C := Try.checked) own started (by kernel_rfl) Try.func7
    (ChangeSpec.witness6 (enc := enc) (C := Try.checked) false ⟨#[], #[.int .u64 0, .int .u64 0, .slice none 0 0, .int .u16 0, .int .u16 0], []⟩ 40 (by kernel_rfl) (by kernel_rfl) (by kernel_rfl) (by kernel_rfl)) ?_
  intro W base args ds gs before hval0 hW hcnd _
  have hval : ∀ (j : Nat) t v, Try.f7.params[j]? = some t → args[j]? = some v → Value.okWide Try.prog W .any base t v := hval0
  have hW' := hW
  obtain ⟨p, q, hA0, hV, rfl, hfz, hnd⟩ := hW
  have hA : DataW.TrodAll enc Try.prog W 0 (fun _ => true) true Try.f7.params.toList args.toList ds p := hA0
  rw [Try.params7] at hA hval
  obtain ⟨v0, vs0, d0, ds0, p0, q0, hargs, rfl, rfl, h0, r0⟩ := trodAll_cons hA
  obtain ⟨v1, vs1, d1, ds1, p1, q1, rfl, rfl, rfl, h1, r1⟩ := trodAll_cons r0
  obtain ⟨v2, vs2, d2, ds2, p2, q2, rfl, rfl, rfl, h2, r2⟩ := trodAll_cons r1
  obtain ⟨v3, vs3, d3, ds3, p3, q3, rfl, rfl, rfl, h3, r3⟩ := trodAll_cons r2
  obtain ⟨v4, vs4, d4, ds4, p4, q4, rfl, rfl, rfl, h4, r4⟩ := trodAll_cons r3
  obtain ⟨rfl, rfl, rfl⟩ := trodAll_nil r4
  obtain rfl : args = #[v0, v1, v2, v3, v4] := by cases args; simp_all
  obtain ⟨rfl, rfl⟩ := trodVars_none hV
  have k0 := h0
  have lt0 : ∀ x ∈ p0, x.block < W.heap.size := by obtain ⟨m, hm⟩ := k0; exact DataW.trod_lt m _ _ _ hm
  obtain ⟨a0, rfl, rfl, rfl, f0⟩ := open_int (k := .u64) (by kernel_rfl) (hval 0 22 v0 rfl rfl) h0
  have k1 := h1
  have lt1 : ∀ x ∈ p1, x.block < W.heap.size := by obtain ⟨m, hm⟩ := k1; exact DataW.trod_lt m _ _ _ hm
  obtain ⟨a1, rfl, rfl, rfl, f1⟩ := open_int (k := .u64) (by kernel_rfl) (hval 1 22 v1 rfl rfl) h1
  have k2 := h2
  have lt2 : ∀ x ∈ p2, x.block < W.heap.size := by obtain ⟨m, hm⟩ := k2; exact DataW.trod_lt m _ _ _ hm
  obtain ⟨A2, n2, c2, rfl⟩ := okWide_slice (show Try.prog.underlying 49 = some (.slice 52) by kernel_rfl) (hval 2 49 v2 rfl rfl)
  obtain ⟨fu2, hf2⟩ := h2
  obtain ⟨A', n', c', hcs2, hl2, hm2, hA2, hc2⟩ := open_flats (show Try.prog.underlying 49 = some (.slice 52) by kernel_rfl) flat52 (by decide) hf2
  simp [Value.cells] at hcs2
  obtain ⟨rfl, rfl, rfl⟩ := hcs2
  obtain ⟨F2_0, g2_0⟩ := column_int fun i hi => hc2 i hi 0 _ rfl
  obtain ⟨F2_1, g2_1⟩ := column_int fun i hi => hc2 i hi 1 _ rfl
  obtain ⟨F2_2, g2_2⟩ := column_int fun i hi => hc2 i hi 2 _ rfl
  have k3 := h3
  have lt3 : ∀ x ∈ p3, x.block < W.heap.size := by obtain ⟨m, hm⟩ := k3; exact DataW.trod_lt m _ _ _ hm
  obtain ⟨a3, rfl, rfl, rfl, f3⟩ := open_int (k := .u16) (by kernel_rfl) (hval 3 47 v3 rfl rfl) h3
  have k4 := h4
  have lt4 : ∀ x ∈ p4, x.block < W.heap.size := by obtain ⟨m, hm⟩ := k4; exact DataW.trod_lt m _ _ _ hm
  obtain ⟨a4, rfl, rfl, rfl, f4⟩ := open_int (k := .u16) (by kernel_rfl) (hval 4 47 v4 rfl rfl) h4
  clear hA0 hval0
  refine (linkAlone_walk W a0 f0 a1 f1 A2 n2 c2 F2_0 (fun i hi => (g2_0 i hi).1) F2_1 (fun i hi => (g2_1 i hi).1) F2_2 (fun i hi => (g2_2 i hi).1) hl2 hm2 hA2 (fun b off hb i hi => (g2_0 i hi).2 b off hb) (fun b off hb i hi => (g2_1 i hi).2 b off hb) (fun b off hb i hi => (g2_2 i hi).2 b off hb) a3 f3 a4 f4).mono fun e W' ⟨he, bel⟩ => ?_
  subst he
  exact ⟨_, rfl, _, _, _, [], _, [], hW', trodAll_mk1 (shut_bool (show Try.prog.underlying 4 = some .bool by kernel_rfl) _), (trodAll_cons_mk (Below.trod laidOut (by kernel_rfl) (of_decide_eq_true (by kernel_rfl)) k0 bel lt0) (trodAll_cons_mk (Below.trod laidOut (by kernel_rfl) (of_decide_eq_true (by kernel_rfl)) k1 bel lt1) (trodAll_cons_mk (Below.trod laidOut (by kernel_rfl) (of_decide_eq_true (by kernel_rfl)) k2 bel lt2) (trodAll_cons_mk (Below.trod laidOut (by kernel_rfl) (of_decide_eq_true (by kernel_rfl)) k3 bel lt3) (trodAll_cons_mk (Below.trod laidOut (by kernel_rfl) (of_decide_eq_true (by kernel_rfl)) k4 bel lt4) trodAll_mk0))))), rfl, bel.frame _, fun h => by cases h⟩

theorem over : Rows.linkAloneRow.holds Try.pinned (OpenSpec.ofChange Rows.linkAloneSpec) :=
  OpenClaim.holds_of_wide 7 Try.f7 rfl rfl rfl rfl rfl rfl rfl ⟨rfl, rfl, rfl, rfl, rfl⟩ rfl rfl rfl rfl rfl (by kernel_rfl) Try.func7 (by kernel_rfl)
    (of_decide_eq_true (by kernel_rfl)) (by unfold Func.isWrapper; first | (rw [if_pos (by decide +kernel)]; kernel_rfl) | (rw [if_neg (by decide +kernel)]; exact ⟨rfl, rfl⟩))
    (fun os started H enc _ => lifted os started H enc)

/-- The statement. -/
theorem proved : Rows.LinkAloneSaid := over
#print axioms proved
end Go.Proofs.Ytmfikclnidbncaa.linkAloneProof
