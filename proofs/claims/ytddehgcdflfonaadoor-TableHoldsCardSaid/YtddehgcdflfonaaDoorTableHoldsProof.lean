/-
  The statement TableHoldsSaid is proved: for every input the law returns true and leaves its arguments as they read. No condition of ours.
-/
import Derived.Test.YtddehgcdflfonaaDoorRows
import Derived.Test.YtddehgcdflfonaaDoorOpen
import Derived.Test.YtddehgcdflfonaaDoorTableHolds
import Derived.Test.YtddehgcdflfonaaDoorCards
import Derived.Test.YtddehgcdflfonaaDoorTie
import Derived.SevenTiedAt
import Derived.LaidHandle
import Derived.Lib.LaidTab
namespace Go.Proofs.YtddehgcdflfonaaDoor.tableHoldsProof
open Go.ChangeShapes Go.WideShapes Go.ChangeAt Go.RowKit
open Go.ChangeMaps (open_string shut_string)
set_option linter.unusedVariables false
set_option linter.unusedSimpArgs false

theorem own : ownKnob Tryd.prog.godebug = none := by kernel_rfl
theorem laidOut : laidOutB Tryd.prog = true := by kernel_rfl

theorem flat5 : FlatT Tryd.prog 5 [.i .u8] := flat_int (by kernel_rfl) (by kernel_rfl)
theorem flat3 : FlatT Tryd.prog 3 [.i .i64] := flat_int (by kernel_rfl) (by kernel_rfl)
theorem flat26 : FlatT Tryd.prog 26 [.i .u64] := flat_int (by kernel_rfl) (by kernel_rfl)
noncomputable def structOf28 : Array Field := match Tryd.prog.underlying 28 with | some (.struct fs) => fs | _ => #[]
theorem underS28 : Tryd.prog.underlying 28 = some (.struct structOf28) := by kernel_rfl
theorem sees28 : (structOf28.toList.map fun f => (f.type, f.offset)) = [(5, 0), (3, 1), (26, 2), (3, 3)] := by kernel_rfl
theorem flat28 : FlatT Tryd.prog 28 [.i .u8, .i .i64, .i .u64, .i .i64] := flat_seen underS28 sees28 (kss := [[.i .u8], [.i .i64], [.i .u64], [.i .i64]]) (by kernel_rfl) (⟨rfl, flat5, ⟨rfl, flat3, ⟨rfl, flat26, ⟨rfl, flat3, trivial⟩⟩⟩⟩) rfl

def bitsTab : List Int := Lib.deBruijn64tab.map fun (n : Nat) => (n : Int)
theorem laid_is {H : Type} : (Rows.laid_math_bits_deBruijn64tab : DataW H) = Lib.tabData .u8 bitsTab := by rfl
theorem tabNamed : Tryd.prog.globalNamed "math/bits.deBruijn64tab" = some 0 := by kernel_rfl
theorem tabType : (Tryd.prog.globals[0]?).map (·.type) = some 74 := by kernel_rfl
theorem tabArray : Tryd.prog.underlying 74 = some (.array 64 5) := by kernel_rfl
theorem tabElem : Tryd.prog.underlying 5 = some (.int .u8) := by kernel_rfl
theorem tabOne : Tryd.prog.cellsOf 5 = 1 := by kernel_rfl
theorem tabAll : Tryd.prog.cellsOf 74 = 64 := by kernel_rfl
theorem bits_of_laid {W : World} (h : laidMetH Tryd.prog [("math/bits.deBruijn64tab", Rows.laid_math_bits_deBruijn64tab)] W) : BrAt W := by
  have h0 : laidMet Tryd.prog [("math/bits.deBruijn64tab", Rows.laid_math_bits_deBruijn64tab)] W := h
  rw [laid_is] at h0
  have hT := Lib.tabIs_of_head tabNamed tabType tabArray tabElem tabOne tabAll h0
  have hc := fun i hi => hT.cell tabNamed i hi
  refine ⟨fun j hj => ?_, World.block_lt_of_cell? _ _ (hc 0 (by decide))⟩
  have := hc j (by simpa [bitsTab, Lib.deBruijn64tab] using hj)
  rw [this]
  have hj2 : j < Lib.deBruijn64tab.length := by simpa [Lib.deBruijn64tab] using hj
  simp only [bitsTab, List.getD_eq_getElem?_getD, List.getElem?_map, List.getElem?_eq_getElem hj2, Option.map_some, Option.getD_some]
noncomputable def laidWorld (os : Os) : World :=
  { World.holding Tryd.prog os ⟨#[], #[], []⟩ with heap := (World.holding Tryd.prog os ⟨#[], #[], []⟩).heap.modify 0 fun
      | .cells _ t frozen => .cells (bitsTab.map fun z => Value.int .u8 z).toArray t frozen
      | o => o }
theorem laidWorld_met (os : Os) (args : Array Value) : laidMetH Tryd.prog [("math/bits.deBruijn64tab", Rows.laid_math_bits_deBruijn64tab)] ((laidWorld os).forCall (fun _ _ => 0) ⟨#[], args, []⟩).memory :=
  laidMetH_of_parts (laidMet_of_run' 4 (by kernel_rfl) (by kernel_rfl)) (by kernel_rfl)

set_option maxRecDepth 100000 in
theorem lifted (os : Os) (started : os.Started) (H : Type) (enc : TypeId × Value → H) :
    ReturnsInHanded {} Tryd.checked os 6 .any (fun w args => (Rows.tableHoldsSpec.pre enc Tryd.prog Tryd.f6 Rows.tableHoldsRow.domain false w args ∧ laidMetH Tryd.prog [("math/bits.deBruijn64tab", Rows.laid_math_bits_deBruijn64tab)] w) ∧ sizedMet enc Tryd.prog Tryd.f6 (OpenSpec.ofChange Rows.tableHoldsSpec) false w args) (Rows.tableHoldsSpec.post enc Tryd.prog Tryd.f6 false true false false) := by
  refine returnsInHanded_of_change_and (C := Tryd.checked) (X := fun w _ => laidMetH Tryd.prog [("math/bits.deBruijn64tab", Rows.laid_math_bits_deBruijn64tab)] w) (fun _ _ _ hh h => h.of_heap hh) own started (by kernel_rfl) Tryd.func6
    (ChangeSpec.witness_at (enc := enc) (C := Tryd.checked) (os := os) (X := fun w _ => laidMetH Tryd.prog [("math/bits.deBruijn64tab", Rows.laid_math_bits_deBruijn64tab)] w) false (laidWorld os) #[.slice none 0 0, .int .i64 0] 40 rfl (by kernel_rfl) (by kernel_rfl) (by kernel_rfl) (by kernel_rfl) (by kernel_rfl) (laidWorld_met os _)) ?_
  intro W base args ds gs before hval0 hW hcnd _ hL _
  have hbits := bits_of_laid hL
  clear hL
  have hval : ∀ (j : Nat) t v, Tryd.f6.params[j]? = some t → args[j]? = some v → Value.okWide Tryd.prog W .any base t v := hval0
  have hW' := hW
  obtain ⟨p, q, hAll0, hV, rfl, hfz, hnd⟩ := hW
  have hA : DataW.TrodAll enc Tryd.prog W 0 (fun _ => true) true Tryd.f6.params.toList args.toList ds p := hAll0
  rw [Tryd.params6] at hA hval
  obtain ⟨v0, vs0, d0, ds0, p0, q0, hargs, rfl, rfl, h0, r0⟩ := trodAll_cons hA
  obtain ⟨v1, vs1, d1, ds1, p1, q1, rfl, rfl, rfl, h1, r1⟩ := trodAll_cons r0
  obtain ⟨rfl, rfl, rfl⟩ := trodAll_nil r1
  obtain rfl : args = #[v0, v1] := by cases args; simp_all
  obtain ⟨rfl, rfl⟩ := trodVars_none hV
  have k0 := h0
  have lt0 : ∀ x ∈ p0, x.block < W.heap.size := by obtain ⟨m, hm⟩ := k0; exact DataW.trod_lt m _ _ _ hm
  obtain ⟨A0, n0, c0, rfl⟩ := okWide_slice (show Tryd.prog.underlying 22 = some (.slice 28) by kernel_rfl) (hval 0 22 v0 rfl rfl)
  obtain ⟨fu0, hf0⟩ := h0
  obtain ⟨A', n', c', hcs0, hl0, hm0, hA0, hc0⟩ := open_flats (show Tryd.prog.underlying 22 = some (.slice 28) by kernel_rfl) flat28 (by decide) hf0
  simp [Value.cells] at hcs0
  obtain ⟨rfl, rfl, rfl⟩ := hcs0
  obtain ⟨F0_0, g0_0⟩ := column_int fun i hi => hc0 i hi 0 _ rfl
  obtain ⟨F0_1, g0_1⟩ := column_int fun i hi => hc0 i hi 1 _ rfl
  obtain ⟨F0_2, g0_2⟩ := column_int fun i hi => hc0 i hi 2 _ rfl
  obtain ⟨F0_3, g0_3⟩ := column_int fun i hi => hc0 i hi 3 _ rfl
  have k1 := h1
  have lt1 : ∀ x ∈ p1, x.block < W.heap.size := by obtain ⟨m, hm⟩ := k1; exact DataW.trod_lt m _ _ _ hm
  obtain ⟨a1, rfl, rfl, rfl, f1⟩ := open_int (k := .i64) (by kernel_rfl) (hval 1 3 v1 rfl rfl) h1
  clear hAll0 hval0
  refine (tableHolds_walk W hbits A0 n0 c0 F0_0 (fun i hi => (g0_0 i hi).1) F0_1 (fun i hi => (g0_1 i hi).1) F0_2 (fun i hi => (g0_2 i hi).1) F0_3 (fun i hi => (g0_3 i hi).1) hl0 hm0 hA0 (fun b off hb i hi => (g0_0 i hi).2 b off hb) (fun b off hb i hi => (g0_1 i hi).2 b off hb) (fun b off hb i hi => (g0_2 i hi).2 b off hb) (fun b off hb i hi => (g0_3 i hi).2 b off hb) a1 f1).mono fun e W' ⟨he, bel⟩ => ?_
  subst he
  exact ⟨_, rfl, _, _, _, [], _, [], hW', trodAll_mk1 (shut_bool (show Tryd.prog.underlying 4 = some .bool by kernel_rfl) _), (trodAll_cons_mk (Below.trod laidOut (by kernel_rfl) (of_decide_eq_true (by kernel_rfl)) k0 bel lt0) (trodAll_cons_mk (Below.trod laidOut (by kernel_rfl) (of_decide_eq_true (by kernel_rfl)) k1 bel lt1) trodAll_mk0)), rfl, bel.frame _, fun h => by cases h⟩

theorem over : Rows.tableHoldsRow.holds Tryd.pinned (OpenSpec.ofChange Rows.tableHoldsSpec) :=
  OpenClaim.holds_of_wide 6 Tryd.f6 rfl rfl rfl rfl rfl rfl rfl ⟨rfl, rfl, rfl, rfl, rfl⟩ rfl rfl rfl rfl rfl (by kernel_rfl) Tryd.func6 (by kernel_rfl)
    (of_decide_eq_true (by kernel_rfl)) (by unfold Func.isWrapper; first | (rw [if_pos (by decide +kernel)]; kernel_rfl) | (rw [if_neg (by decide +kernel)]; exact ⟨rfl, rfl⟩))
    (fun os started H enc _ => lifted os started H enc)

set_option maxRecDepth 100000 in
theorem carded : Rows.TableHoldsCardSaid :=
  Claim7.holds_tied_plain_at .later [] [.data] true (true, "ea6b2215601ab998bb6b6ab8ad8394251a6addd12085960730873644d582f086") false
    over (fun _ h => by cases h) (by kernel_rfl) (fun _ h => by cases h) tableHolds_row_tie rfl ⟨rfl, rfl⟩ (by kernel_rfl) rfl
    (fun f fn hf hfn => by
      obtain rfl : f = 6 := Option.some.inj ((show Tryd.prog.funcNamed Rows.tableHoldsRow.func = some 6 by kernel_rfl).symm.trans hf) |>.symm
      obtain rfl : fn = Tryd.f6 := (Option.some.inj (Tryd.func6.symm.trans hfn)).symm
      exact ⟨by kernel_rfl, fun j t ht => by
        rw [Tryd.params6] at ht
        have hm : t ∈ [22, 3] := by simpa using Array.mem_of_getElem? ht
        have hall : ([22, 3].all fun u => !Tryd.prog.wantsStandIn u) = true := by kernel_rfl
        exact (show Tryd.prog.wantsStandIn t = false by simpa using List.all_eq_true.1 hall t hm)⟩)
    (by kernel_rfl)

/-- The statement. -/
theorem proved : Rows.TableHoldsCardSaid := carded
#print axioms proved
end Go.Proofs.YtddehgcdflfonaaDoor.tableHoldsProof
