/-
  The statement WideDistributesSaid is proved: for every input the law returns true and leaves its arguments as they read. No condition of ours.
-/
import Derived.Test.YtafhdpldkbhdcaaRows
import Derived.Test.YtafhdpldkbhdcaaOpen
import Derived.Test.YtafhdpldkbhdcaaWideDistributes
namespace Go.Proofs.Ytafhdpldkbhdcaa.wideDistributesProof
open Go.ChangeShapes Go.WideShapes Go.ChangeAt Go.RowKit
open Go.ChangeMaps (open_string shut_string)
set_option linter.unusedVariables false
set_option linter.unusedSimpArgs false

theorem own : ownKnob Try.prog.godebug = none := by kernel_rfl
theorem laidOut : laidOutB Try.prog = true := by kernel_rfl

theorem flat22 : FlatT Try.prog 22 [.i .u64] := flat_int (by kernel_rfl) (by kernel_rfl)
noncomputable def structOf25 : Array Field := match Try.prog.underlying 25 with | some (.struct fs) => fs | _ => #[]
theorem underS25 : Try.prog.underlying 25 = some (.struct structOf25) := by kernel_rfl
theorem sees25 : (structOf25.toList.map fun f => (f.type, f.offset)) = [(22, 0), (22, 1)] := by kernel_rfl
theorem flat25 : FlatT Try.prog 25 [.i .u64, .i .u64] := flat_seen underS25 sees25 (kss := [[.i .u64], [.i .u64]]) (by kernel_rfl) (⟨rfl, flat22, ⟨rfl, flat22, trivial⟩⟩) rfl

set_option maxRecDepth 100000 in
theorem lifted (os : Os) (started : os.Started) (H : Type) (enc : TypeId × Value → H) :
    ReturnsInHanded {} Try.checked os 6 .any (Rows.wideDistributesSpec.pre6 enc Try.prog Try.f6 Rows.wideDistributesRow.domain false) (Rows.wideDistributesSpec.post enc Try.prog Try.f6 false true false false) := by
  refine returnsInHanded_of_change (C := Try.checked) own started (by kernel_rfl) Try.func6
    (ChangeSpec.witness6 (enc := enc) (C := Try.checked) false ⟨#[], #[.int .u64 0, .int .u64 0, .int .u64 0, .agg #[.int .u64 0, .int .u64 0], .agg #[.int .u64 0, .int .u64 0]], []⟩ 40 (by kernel_rfl) (by kernel_rfl) (by kernel_rfl) (by kernel_rfl)) ?_
  intro W base args ds gs before hval0 hW hcnd _
  have hval : ∀ (j : Nat) t v, Try.f6.params[j]? = some t → args[j]? = some v → Value.okWide Try.prog W .any base t v := hval0
  have hW' := hW
  obtain ⟨p, q, hA0, hV, rfl, hfz, hnd⟩ := hW
  have hA : DataW.TrodAll enc Try.prog W 0 (fun _ => true) true Try.f6.params.toList args.toList ds p := hA0
  rw [Try.params6] at hA hval
  obtain ⟨v0, vs0, d0, ds0, p0, q0, hargs, rfl, rfl, h0, r0⟩ := trodAll_cons hA
  obtain ⟨v1, vs1, d1, ds1, p1, q1, rfl, rfl, rfl, h1, r1⟩ := trodAll_cons r0
  obtain ⟨v2, vs2, d2, ds2, p2, q2, rfl, rfl, rfl, h2, r2⟩ := trodAll_cons r1
  obtain ⟨v3, vs3, d3, ds3, p3, q3, rfl, rfl, rfl, h3, r3⟩ := trodAll_cons r2
  obtain ⟨v4, vs4, d4, ds4, p4, q4, rfl, rfl, rfl, h4, r4⟩ := trodAll_cons r3
  obtain ⟨rfl, rfl, rfl⟩ := trodAll_nil r4
  obtain rfl : args = #[v0, v1, v2, v3, v4] := by cases args; simp_all
  obtain ⟨rfl, rfl⟩ := trodVars_none hV
  have k0 := h0
  have lt0 : ∀ x ∈ p0, x.block < W.heap.size := by obtain ⟨m, hm⟩ := k0; exact DataW.trod_lt m _ _ _ hm
  obtain ⟨a0, rfl, rfl, rfl, f0⟩ := open_int (k := .u64) (by kernel_rfl) (hval 0 22 v0 rfl rfl) h0
  have k1 := h1
  have lt1 : ∀ x ∈ p1, x.block < W.heap.size := by obtain ⟨m, hm⟩ := k1; exact DataW.trod_lt m _ _ _ hm
  obtain ⟨a1, rfl, rfl, rfl, f1⟩ := open_int (k := .u64) (by kernel_rfl) (hval 1 22 v1 rfl rfl) h1
  have k2 := h2
  have lt2 : ∀ x ∈ p2, x.block < W.heap.size := by obtain ⟨m, hm⟩ := k2; exact DataW.trod_lt m _ _ _ hm
  obtain ⟨a2, rfl, rfl, rfl, f2⟩ := open_int (k := .u64) (by kernel_rfl) (hval 2 22 v2 rfl rfl) h2
  have k3 := h3
  have lt3 : ∀ x ∈ p3, x.block < W.heap.size := by obtain ⟨m, hm⟩ := k3; exact DataW.trod_lt m _ _ _ hm
  obtain ⟨cs3, rfl, len3, get3⟩ := open_flat underS25 flat25 (hval 3 25 v3 rfl rfl) h3
  obtain ⟨_, e3_0, a3_0, rfl, f3_0⟩ := get3 0 _ rfl
  obtain ⟨_, e3_1, a3_1, rfl, f3_1⟩ := get3 1 _ rfl
  obtain rfl : cs3 = [.int .u64 a3_0, .int .u64 a3_1] := by
    apply List.ext_getElem?
    intro i
    match i with
    | 0 => exact e3_0
    | 1 => exact e3_1
    | i + 2 => rw [List.getElem?_eq_none (by rw [len3]; simp), List.getElem?_eq_none (by simp)]
  have k4 := h4
  have lt4 : ∀ x ∈ p4, x.block < W.heap.size := by obtain ⟨m, hm⟩ := k4; exact DataW.trod_lt m _ _ _ hm
  obtain ⟨cs4, rfl, len4, get4⟩ := open_flat underS25 flat25 (hval 4 25 v4 rfl rfl) h4
  obtain ⟨_, e4_0, a4_0, rfl, f4_0⟩ := get4 0 _ rfl
  obtain ⟨_, e4_1, a4_1, rfl, f4_1⟩ := get4 1 _ rfl
  obtain rfl : cs4 = [.int .u64 a4_0, .int .u64 a4_1] := by
    apply List.ext_getElem?
    intro i
    match i with
    | 0 => exact e4_0
    | 1 => exact e4_1
    | i + 2 => rw [List.getElem?_eq_none (by rw [len4]; simp), List.getElem?_eq_none (by simp)]
  clear hA0 hval0
  refine (wideDistributes_walk W a0 f0 a1 f1 a2 f2 a3_0 f3_0 a3_1 f3_1 a4_0 f4_0 a4_1 f4_1).mono fun e W' ⟨he, bel⟩ => ?_
  subst he
  exact ⟨_, rfl, _, _, _, [], _, [], hW', trodAll_mk1 (shut_bool (show Try.prog.underlying 4 = some .bool by kernel_rfl) _), (trodAll_cons_mk (Below.trod laidOut (by kernel_rfl) (of_decide_eq_true (by kernel_rfl)) k0 bel lt0) (trodAll_cons_mk (Below.trod laidOut (by kernel_rfl) (of_decide_eq_true (by kernel_rfl)) k1 bel lt1) (trodAll_cons_mk (Below.trod laidOut (by kernel_rfl) (of_decide_eq_true (by kernel_rfl)) k2 bel lt2) (trodAll_cons_mk (Below.trod laidOut (by kernel_rfl) (of_decide_eq_true (by kernel_rfl)) k3 bel lt3) (trodAll_cons_mk (Below.trod laidOut (by kernel_rfl) (of_decide_eq_true (by kernel_rfl)) k4 bel lt4) trodAll_mk0))))), rfl, bel.frame _, fun h => by cases h⟩

theorem over : Rows.wideDistributesRow.holds Try.pinned (OpenSpec.ofChange Rows.wideDistributesSpec) :=
  OpenClaim.holds_of_wide 6 Try.f6 rfl rfl rfl rfl rfl rfl rfl ⟨rfl, rfl, rfl, rfl, rfl⟩ rfl rfl rfl rfl rfl (by kernel_rfl) Try.func6 (by kernel_rfl)
    (of_decide_eq_true (by kernel_rfl)) (by unfold Func.isWrapper; first | (rw [if_pos (by decide +kernel)]; kernel_rfl) | (rw [if_neg (by decide +kernel)]; exact ⟨rfl, rfl⟩))
    (fun os started H enc _ => lifted os started H enc)

/-- The statement. -/
theorem proved : Rows.WideDistributesSaid := over
#print axioms proved
end Go.Proofs.Ytafhdpldkbhdcaa.wideDistributesProof
