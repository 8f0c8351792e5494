/-
  The statement AugNoneSaid is proved: for every input the law returns true and leaves its arguments as they read. No condition of ours.
-/
import Derived.Test.YtjlnbpomncglcaaRows
import Derived.Test.YtjlnbpomncglcaaOpen
import Derived.Test.YtjlnbpomncglcaaAugNone
namespace Go.Proofs.Ytjlnbpomncglcaa.augNoneProof
open Go.ChangeShapes Go.WideShapes Go.ChangeAt Go.RowKit
open Go.ChangeMaps (open_string shut_string)
set_option linter.unusedVariables false
set_option linter.unusedSimpArgs false

theorem own : ownKnob Try.prog.godebug = none := by kernel_rfl
theorem laidOut : laidOutB Try.prog = true := by kernel_rfl

theorem flat3 : FlatT Try.prog 3 [.i .i64] := flat_int (by kernel_rfl) (by kernel_rfl)
theorem flat23 : FlatT Try.prog 23 [.i .u64] := flat_int (by kernel_rfl) (by kernel_rfl)
theorem flat4 : FlatT Try.prog 4 [.b] := flat_bool (by kernel_rfl) (by kernel_rfl)
noncomputable def structOf86 : Array Field := match Try.prog.underlying 86 with | some (.struct fs) => fs | _ => #[]
theorem underS86 : Try.prog.underlying 86 = some (.struct structOf86) := by kernel_rfl
theorem sees86 : (structOf86.toList.map fun f => (f.type, f.offset)) = [(3, 0), (23, 1), (23, 2), (4, 3), (23, 4), (23, 5)] := by kernel_rfl
theorem flat86 : FlatT Try.prog 86 [.i .i64, .i .u64, .i .u64, .b, .i .u64, .i .u64] := flat_seen underS86 sees86 (kss := [[.i .i64], [.i .u64], [.i .u64], [.b], [.i .u64], [.i .u64]]) (by kernel_rfl) (⟨rfl, flat3, ⟨rfl, flat23, ⟨rfl, flat23, ⟨rfl, flat4, ⟨rfl, flat23, ⟨rfl, flat23, trivial⟩⟩⟩⟩⟩⟩) rfl

set_option maxRecDepth 100000 in
theorem lifted (os : Os) (started : os.Started) (H : Type) (enc : TypeId × Value → H) :
    ReturnsInHanded {} Try.checked os 15 .any (Rows.augNoneSpec.pre6 enc Try.prog Try.f15 Rows.augNoneRow.domain false) (Rows.augNoneSpec.post enc Try.prog Try.f15 false true false false) := by
  refine returnsInHanded_of_change (C := Try.checked) own started (by kernel_rfl) Try.func15
    (ChangeSpec.witness6 (enc := enc) (C := Try.checked) false ⟨#[], #[.agg #[.int .i64 0, .int .u64 0, .int .u64 0, .bool false, .int .u64 0, .int .u64 0]], []⟩ 40 (by kernel_rfl) (by kernel_rfl) (by kernel_rfl) (by kernel_rfl)) ?_
  intro W base args ds gs before hval0 hW hcnd _
  have hval : ∀ (j : Nat) t v, Try.f15.params[j]? = some t → args[j]? = some v → Value.okWide Try.prog W .any base t v := hval0
  have hW' := hW
  obtain ⟨p, q, hAll0, hV, rfl, hfz, hnd⟩ := hW
  have hA : DataW.TrodAll enc Try.prog W 0 (fun _ => true) true Try.f15.params.toList args.toList ds p := hAll0
  rw [Try.params15] at hA hval
  obtain ⟨v0, vs0, d0, ds0, p0, q0, hargs, rfl, rfl, h0, r0⟩ := trodAll_cons hA
  obtain ⟨rfl, rfl, rfl⟩ := trodAll_nil r0
  obtain rfl : args = #[v0] := by cases args; simp_all
  obtain ⟨rfl, rfl⟩ := trodVars_none hV
  have k0 := h0
  have lt0 : ∀ x ∈ p0, x.block < W.heap.size := by obtain ⟨m, hm⟩ := k0; exact DataW.trod_lt m _ _ _ hm
  obtain ⟨cs0, rfl, len0, get0⟩ := open_flat underS86 flat86 (hval 0 86 v0 rfl rfl) h0
  obtain ⟨_, e0_0, a0_0, rfl, f0_0⟩ := get0 0 _ rfl
  obtain ⟨_, e0_1, a0_1, rfl, f0_1⟩ := get0 1 _ rfl
  obtain ⟨_, e0_2, a0_2, rfl, f0_2⟩ := get0 2 _ rfl
  obtain ⟨_, e0_3, a0_3, rfl⟩ := get0 3 _ rfl
  obtain ⟨_, e0_4, a0_4, rfl, f0_4⟩ := get0 4 _ rfl
  obtain ⟨_, e0_5, a0_5, rfl, f0_5⟩ := get0 5 _ rfl
  obtain rfl : cs0 = [.int .i64 a0_0, .int .u64 a0_1, .int .u64 a0_2, .bool a0_3, .int .u64 a0_4, .int .u64 a0_5] := by
    apply List.ext_getElem?
    intro i
    match i with
    | 0 => exact e0_0
    | 1 => exact e0_1
    | 2 => exact e0_2
    | 3 => exact e0_3
    | 4 => exact e0_4
    | 5 => exact e0_5
    | i + 6 => rw [List.getElem?_eq_none (by rw [len0]; simp), List.getElem?_eq_none (by simp)]
  clear hAll0 hval0
  refine (augNone_walk W a0_0 f0_0 a0_1 f0_1 a0_2 f0_2 a0_3 a0_4 f0_4 a0_5 f0_5).mono fun e W' ⟨he, bel⟩ => ?_
  subst he
  exact ⟨_, rfl, _, _, _, [], _, [], hW', trodAll_mk1 (shut_bool (show Try.prog.underlying 4 = some .bool by kernel_rfl) _), (trodAll_cons_mk (Below.trod laidOut (by kernel_rfl) (of_decide_eq_true (by kernel_rfl)) k0 bel lt0) trodAll_mk0), rfl, bel.frame _, fun h => by cases h⟩

theorem over : Rows.augNoneRow.holds Try.pinned (OpenSpec.ofChange Rows.augNoneSpec) :=
  OpenClaim.holds_of_wide 15 Try.f15 rfl rfl rfl rfl rfl rfl rfl ⟨rfl, rfl, rfl, rfl, rfl⟩ rfl rfl rfl rfl rfl (by kernel_rfl) Try.func15 (by kernel_rfl)
    (of_decide_eq_true (by kernel_rfl)) (by unfold Func.isWrapper; first | (rw [if_pos (by decide +kernel)]; kernel_rfl) | (rw [if_neg (by decide +kernel)]; exact ⟨rfl, rfl⟩))
    (fun os started H enc _ => lifted os started H enc)

/-- The statement. -/
theorem proved : Rows.AugNoneSaid := over
#print axioms proved
end Go.Proofs.Ytjlnbpomncglcaa.augNoneProof
