/-
  The statement CommandOwnSaid is proved: for every input the law returns true and leaves its arguments as they read. No condition of ours.
-/
import Derived.Test.YtjhffbhjiflfeaaDoorRows
import Derived.Test.YtjhffbhjiflfeaaDoorOpen
import Derived.Test.YtjhffbhjiflfeaaDoorCommandOwn
import Derived.Test.YtjhffbhjiflfeaaDoorCards
import Derived.Test.YtjhffbhjiflfeaaDoorTie
import Derived.SevenTiedAt
import Derived.LaidHandle
import Derived.Lib.LaidTab
namespace Go.Proofs.YtjhffbhjiflfeaaDoor.commandOwnProof
open Go.ChangeShapes Go.WideShapes Go.ChangeAt Go.RowKit
open Go.ChangeMaps (open_string shut_string)
set_option linter.unusedVariables false
set_option linter.unusedSimpArgs false

theorem own : ownKnob Tryd.prog.godebug = none := by kernel_rfl
theorem laidOut : laidOutB Tryd.prog = true := by kernel_rfl

theorem flat5 : FlatT Tryd.prog 5 [.i .u8] := flat_int (by kernel_rfl) (by kernel_rfl)
theorem flat22 : FlatT Tryd.prog 22 [.i .u64] := flat_int (by kernel_rfl) (by kernel_rfl)
theorem flat3 : FlatT Tryd.prog 3 [.i .i64] := flat_int (by kernel_rfl) (by kernel_rfl)
noncomputable def structOf24 : Array Field := match Tryd.prog.underlying 24 with | some (.struct fs) => fs | _ => #[]
theorem underS24 : Tryd.prog.underlying 24 = some (.struct structOf24) := by kernel_rfl
theorem sees24 : (structOf24.toList.map fun f => (f.type, f.offset)) = [(22, 0), (3, 1), (22, 2)] := by kernel_rfl
theorem flat24 : FlatT Tryd.prog 24 [.i .u64, .i .i64, .i .u64] := flat_seen underS24 sees24 (kss := [[.i .u64], [.i .i64], [.i .u64]]) (by kernel_rfl) (⟨rfl, flat22, ⟨rfl, flat3, ⟨rfl, flat22, trivial⟩⟩⟩) rfl
theorem flat4 : FlatT Tryd.prog 4 [.b] := flat_bool (by kernel_rfl) (by kernel_rfl)
noncomputable def structOf26 : Array Field := match Tryd.prog.underlying 26 with | some (.struct fs) => fs | _ => #[]
theorem underS26 : Tryd.prog.underlying 26 = some (.struct structOf26) := by kernel_rfl
theorem sees26 : (structOf26.toList.map fun f => (f.type, f.offset)) = [(22, 0), (22, 1), (22, 2)] := by kernel_rfl
theorem flat26 : FlatT Tryd.prog 26 [.i .u64, .i .u64, .i .u64] := flat_seen underS26 sees26 (kss := [[.i .u64], [.i .u64], [.i .u64]]) (by kernel_rfl) (⟨rfl, flat22, ⟨rfl, flat22, ⟨rfl, flat22, trivial⟩⟩⟩) rfl
noncomputable def structOf28 : Array Field := match Tryd.prog.underlying 28 with | some (.struct fs) => fs | _ => #[]
theorem underS28 : Tryd.prog.underlying 28 = some (.struct structOf28) := by kernel_rfl
theorem sees28 : (structOf28.toList.map fun f => (f.type, f.offset)) = [(3, 0), (3, 1), (4, 2), (26, 3), (26, 6), (26, 9), (3, 12), (3, 13)] := by kernel_rfl
theorem flat28 : FlatT Tryd.prog 28 [.i .i64, .i .i64, .b, .i .u64, .i .u64, .i .u64, .i .u64, .i .u64, .i .u64, .i .u64, .i .u64, .i .u64, .i .i64, .i .i64] := flat_seen underS28 sees28 (kss := [[.i .i64], [.i .i64], [.b], [.i .u64, .i .u64, .i .u64], [.i .u64, .i .u64, .i .u64], [.i .u64, .i .u64, .i .u64], [.i .i64], [.i .i64]]) (by kernel_rfl) (⟨rfl, flat3, ⟨rfl, flat3, ⟨rfl, flat4, ⟨rfl, flat26, ⟨rfl, flat26, ⟨rfl, flat26, ⟨rfl, flat3, ⟨rfl, flat3, trivial⟩⟩⟩⟩⟩⟩⟩⟩) rfl
noncomputable def structOf30 : Array Field := match Tryd.prog.underlying 30 with | some (.struct fs) => fs | _ => #[]
theorem underS30 : Tryd.prog.underlying 30 = some (.struct structOf30) := by kernel_rfl
theorem sees30 : (structOf30.toList.map fun f => (f.type, f.offset)) = [(22, 0), (3, 1), (3, 2), (22, 3)] := by kernel_rfl
theorem flat30 : FlatT Tryd.prog 30 [.i .u64, .i .i64, .i .i64, .i .u64] := flat_seen underS30 sees30 (kss := [[.i .u64], [.i .i64], [.i .i64], [.i .u64]]) (by kernel_rfl) (⟨rfl, flat22, ⟨rfl, flat3, ⟨rfl, flat3, ⟨rfl, flat22, trivial⟩⟩⟩⟩) rfl
noncomputable def structOf32 : Array Field := match Tryd.prog.underlying 32 with | some (.struct fs) => fs | _ => #[]
theorem underS32 : Tryd.prog.underlying 32 = some (.struct structOf32) := by kernel_rfl
theorem sees32 : (structOf32.toList.map fun f => (f.type, f.offset)) = [(5, 0), (24, 1), (28, 4), (3, 18), (30, 19), (22, 23)] := by kernel_rfl
theorem flat32 : FlatT Tryd.prog 32 [.i .u8, .i .u64, .i .i64, .i .u64, .i .i64, .i .i64, .b, .i .u64, .i .u64, .i .u64, .i .u64, .i .u64, .i .u64, .i .u64, .i .u64, .i .u64, .i .i64, .i .i64, .i .i64, .i .u64, .i .i64, .i .i64, .i .u64, .i .u64] := flat_seen underS32 sees32 (kss := [[.i .u8], [.i .u64, .i .i64, .i .u64], [.i .i64, .i .i64, .b, .i .u64, .i .u64, .i .u64, .i .u64, .i .u64, .i .u64, .i .u64, .i .u64, .i .u64, .i .i64, .i .i64], [.i .i64], [.i .u64, .i .i64, .i .i64, .i .u64], [.i .u64]]) (by kernel_rfl) (⟨rfl, flat5, ⟨rfl, flat24, ⟨rfl, flat28, ⟨rfl, flat3, ⟨rfl, flat30, ⟨rfl, flat22, trivial⟩⟩⟩⟩⟩⟩) rfl

def namesTab : List ByteArray := (List.range 8).map fun j => bs (nameL j)
theorem laid_is {H : Type} : (Rows.laid_distributary_command_names : DataW H) = .agg (namesTab.map fun s => .lit (.string s.data.toList)) := by rfl
theorem tabNamed : Tryd.prog.globalNamed "distributary/command.names" = some 0 := by kernel_rfl
theorem tabType : (Tryd.prog.globals[0]?).map (·.type) = some 58 := by kernel_rfl
theorem tabArray : Tryd.prog.underlying 58 = some (.array 8 9) := by kernel_rfl
theorem tabElem : Tryd.prog.underlying 9 = some .string := by kernel_rfl
theorem tabOne : Tryd.prog.cellsOf 9 = 1 := by kernel_rfl
theorem tabAll : Tryd.prog.cellsOf 58 = 8 := by kernel_rfl
/-- An array of strings that reads as a list of strings holds them. -/
theorem strs_hold {H : Type} {enc : TypeId × Value → H} {P : Program} {w : World} {base : Nat} {sp : Nat → Bool} {held : Bool} {fuel : Nat} {t e : TypeId} {n : Nat} {cs : List Value} {zs : List ByteArray} {p : List MemPlace}
    (ht : P.underlying t = some (.array n e)) (he : P.underlying e = some .string) (hce : P.cellsOf e = 1) (hct : P.cellsOf t = n)
    (h : DataW.trod enc P w base sp held fuel t cs = some (.agg (zs.map fun s => DataW.lit (Lit.string s.data.toList)), p)) : ∀ (i : Nat) (s : ByteArray), zs[i]? = some s → cs[i]? = some (Value.string s) := by
  cases fuel with
  | zero => simp [DataW.trod] at h
  | succ fuel =>
    simp only [DataW.trod, ht, hce, hct, Nat.mul_one] at h
    split at h
    · obtain ⟨xs, hm, hx⟩ := Option.map_eq_some_iff.1 h
      have hxs : xs.map (·.1) = zs.map fun s => (DataW.lit (.string s.data.toList) : DataW H) := by simpa using congrArg Prod.fst hx
      have hxl : xs.length = n := by simpa using Lib.mapM_length hm
      have hzl : zs.length = n := by
        have := congrArg List.length hxs
        simp at this
        omega
      intro i s hs
      have hi : i < n := by
        have := (List.getElem?_eq_some_iff.1 hs).1
        omega
      obtain ⟨b, hb, hf⟩ := Lib.mapM_at hm i i (by simp [hi])
      obtain ⟨u, hc, rfl, _⟩ := DataW.trod_string he hf
      have h2 : (xs.map (·.1))[i]? = some (DataW.lit (.string u.data.toList) : DataW H) := by simp [hb]
      rw [hxs, List.getElem?_map, hs] at h2
      simp only [Option.map_some, Option.some.injEq, DataW.lit.injEq, Lit.string.injEq] at h2
      have e : s = u := ByteArray.ext (Array.toList_inj.1 h2)
      subst e
      have := congrArg (·[0]?) hc
      simpa [List.getElem?_take, List.getElem?_drop] using this
    · cases h
theorem names_of_laid {W : World} (h : laidMetH Tryd.prog [("distributary/command.names", Rows.laid_distributary_command_names)] W) : NamesAt W := by
  have h0 : laidMet Tryd.prog [("distributary/command.names", Rows.laid_distributary_command_names)] W := h
  rw [laid_is] at h0
  obtain ⟨ps, ⟨g', t', cs, fuel, p, q, hg', ht', hvar, hd, _, _⟩, _⟩ := h0
  obtain rfl := Option.some.inj (tabNamed.symm.trans hg')
  obtain rfl := Option.some.inj (tabType.symm.trans ht')
  have hs := strs_hold tabArray tabElem tabOne tabAll hd
  have hc : ∀ j, j < 8 → W.cell? ⟨0, j, none⟩ = some (.string (bs (nameL j))) := fun j hj => by
    have e := World.var?_cell tabNamed hvar j
    rw [e]
    have := hs j (bs (nameL j)) (by simp [namesTab, hj])
    simpa using this
  exact ⟨hc, World.block_lt_of_cell? _ _ (hc 0 (by decide))⟩
noncomputable def laidWorld (os : Os) : World :=
  { World.holding Tryd.prog os ⟨#[], #[], []⟩ with heap := (World.holding Tryd.prog os ⟨#[], #[], []⟩).heap.modify 0 fun
      | .cells _ t frozen => .cells (namesTab.map fun s => Value.string s).toArray t frozen
      | o => o }
theorem laidWorld_met (os : Os) (args : Array Value) : laidMetH Tryd.prog [("distributary/command.names", Rows.laid_distributary_command_names)] ((laidWorld os).forCall (fun _ _ => 0) ⟨#[], args, []⟩).memory :=
  laidMetH_of_parts (laidMet_of_run' 4 (by kernel_rfl) (by kernel_rfl)) (by kernel_rfl)

set_option maxRecDepth 100000 in
theorem lifted (os : Os) (started : os.Started) (H : Type) (enc : TypeId × Value → H) :
    ReturnsInHanded {} Tryd.checked os 3 .any (fun w args => (Rows.commandOwnSpec.pre enc Tryd.prog Tryd.f3 Rows.commandOwnRow.domain false w args ∧ laidMetH Tryd.prog [("distributary/command.names", Rows.laid_distributary_command_names)] w) ∧ sizedMet enc Tryd.prog Tryd.f3 (OpenSpec.ofChange Rows.commandOwnSpec) false w args) (Rows.commandOwnSpec.post enc Tryd.prog Tryd.f3 false true false false) := by
  refine returnsInHanded_of_change_and (C := Tryd.checked) (X := fun w _ => laidMetH Tryd.prog [("distributary/command.names", Rows.laid_distributary_command_names)] w) (fun _ _ _ hh h => h.of_heap hh) own started (by kernel_rfl) Tryd.func3
    (ChangeSpec.witness_at (enc := enc) (C := Tryd.checked) (os := os) (X := fun w _ => laidMetH Tryd.prog [("distributary/command.names", Rows.laid_distributary_command_names)] w) false (laidWorld os) #[.agg #[.int .u8 0, .int .u64 0, .int .i64 0, .int .u64 0, .int .i64 0, .int .i64 0, .bool false, .int .u64 0, .int .u64 0, .int .u64 0, .int .u64 0, .int .u64 0, .int .u64 0, .int .u64 0, .int .u64 0, .int .u64 0, .int .i64 0, .int .i64 0, .int .i64 0, .int .u64 0, .int .i64 0, .int .i64 0, .int .u64 0, .int .u64 0]] 40 rfl (by kernel_rfl) (by kernel_rfl) (by kernel_rfl) (by kernel_rfl) (by kernel_rfl) (laidWorld_met os _)) ?_
  intro W base args ds gs before hval0 hW hcnd _ hL _
  have hbits := names_of_laid hL
  clear hL
  have hval : ∀ (j : Nat) t v, Tryd.f3.params[j]? = some t → args[j]? = some v → Value.okWide Tryd.prog W .any base t v := hval0
  have hW' := hW
  obtain ⟨p, q, hAll0, hV, rfl, hfz, hnd⟩ := hW
  have hA : DataW.TrodAll enc Tryd.prog W 0 (fun _ => true) true Tryd.f3.params.toList args.toList ds p := hAll0
  rw [Tryd.params3] at hA hval
  obtain ⟨v0, vs0, d0, ds0, p0, q0, hargs, rfl, rfl, h0, r0⟩ := trodAll_cons hA
  obtain ⟨rfl, rfl, rfl⟩ := trodAll_nil r0
  obtain rfl : args = #[v0] := by cases args; simp_all
  obtain ⟨rfl, rfl⟩ := trodVars_none hV
  have k0 := h0
  have lt0 : ∀ x ∈ p0, x.block < W.heap.size := by obtain ⟨m, hm⟩ := k0; exact DataW.trod_lt m _ _ _ hm
  obtain ⟨cs0, rfl, len0, get0⟩ := open_flat underS32 flat32 (hval 0 32 v0 rfl rfl) h0
  obtain ⟨_, e0_0, a0_0, rfl, f0_0⟩ := get0 0 _ rfl
  obtain ⟨_, e0_1, a0_1, rfl, f0_1⟩ := get0 1 _ rfl
  obtain ⟨_, e0_2, a0_2, rfl, f0_2⟩ := get0 2 _ rfl
  obtain ⟨_, e0_3, a0_3, rfl, f0_3⟩ := get0 3 _ rfl
  obtain ⟨_, e0_4, a0_4, rfl, f0_4⟩ := get0 4 _ rfl
  obtain ⟨_, e0_5, a0_5, rfl, f0_5⟩ := get0 5 _ rfl
  obtain ⟨_, e0_6, a0_6, rfl⟩ := get0 6 _ rfl
  obtain ⟨_, e0_7, a0_7, rfl, f0_7⟩ := get0 7 _ rfl
  obtain ⟨_, e0_8, a0_8, rfl, f0_8⟩ := get0 8 _ rfl
  obtain ⟨_, e0_9, a0_9, rfl, f0_9⟩ := get0 9 _ rfl
  obtain ⟨_, e0_10, a0_10, rfl, f0_10⟩ := get0 10 _ rfl
  obtain ⟨_, e0_11, a0_11, rfl, f0_11⟩ := get0 11 _ rfl
  obtain ⟨_, e0_12, a0_12, rfl, f0_12⟩ := get0 12 _ rfl
  obtain ⟨_, e0_13, a0_13, rfl, f0_13⟩ := get0 13 _ rfl
  obtain ⟨_, e0_14, a0_14, rfl, f0_14⟩ := get0 14 _ rfl
  obtain ⟨_, e0_15, a0_15, rfl, f0_15⟩ := get0 15 _ rfl
  obtain ⟨_, e0_16, a0_16, rfl, f0_16⟩ := get0 16 _ rfl
  obtain ⟨_, e0_17, a0_17, rfl, f0_17⟩ := get0 17 _ rfl
  obtain ⟨_, e0_18, a0_18, rfl, f0_18⟩ := get0 18 _ rfl
  obtain ⟨_, e0_19, a0_19, rfl, f0_19⟩ := get0 19 _ rfl
  obtain ⟨_, e0_20, a0_20, rfl, f0_20⟩ := get0 20 _ rfl
  obtain ⟨_, e0_21, a0_21, rfl, f0_21⟩ := get0 21 _ rfl
  obtain ⟨_, e0_22, a0_22, rfl, f0_22⟩ := get0 22 _ rfl
  obtain ⟨_, e0_23, a0_23, rfl, f0_23⟩ := get0 23 _ rfl
  obtain rfl : cs0 = [.int .u8 a0_0, .int .u64 a0_1, .int .i64 a0_2, .int .u64 a0_3, .int .i64 a0_4, .int .i64 a0_5, .bool a0_6, .int .u64 a0_7, .int .u64 a0_8, .int .u64 a0_9, .int .u64 a0_10, .int .u64 a0_11, .int .u64 a0_12, .int .u64 a0_13, .int .u64 a0_14, .int .u64 a0_15, .int .i64 a0_16, .int .i64 a0_17, .int .i64 a0_18, .int .u64 a0_19, .int .i64 a0_20, .int .i64 a0_21, .int .u64 a0_22, .int .u64 a0_23] := by
    apply List.ext_getElem?
    intro i
    match i with
    | 0 => exact e0_0
    | 1 => exact e0_1
    | 2 => exact e0_2
    | 3 => exact e0_3
    | 4 => exact e0_4
    | 5 => exact e0_5
    | 6 => exact e0_6
    | 7 => exact e0_7
    | 8 => exact e0_8
    | 9 => exact e0_9
    | 10 => exact e0_10
    | 11 => exact e0_11
    | 12 => exact e0_12
    | 13 => exact e0_13
    | 14 => exact e0_14
    | 15 => exact e0_15
    | 16 => exact e0_16
    | 17 => exact e0_17
    | 18 => exact e0_18
    | 19 => exact e0_19
    | 20 => exact e0_20
    | 21 => exact e0_21
    | 22 => exact e0_22
    | 23 => exact e0_23
    | i + 24 => rw [List.getElem?_eq_none (by rw [len0]; simp), List.getElem?_eq_none (by simp)]
  clear hAll0 hval0
  refine (commandOwn_walk W hbits a0_0 f0_0 a0_1 f0_1 a0_2 f0_2 a0_3 f0_3 a0_4 f0_4 a0_5 f0_5 a0_6 a0_7 f0_7 a0_8 f0_8 a0_9 f0_9 a0_10 f0_10 a0_11 f0_11 a0_12 f0_12 a0_13 f0_13 a0_14 f0_14 a0_15 f0_15 a0_16 f0_16 a0_17 f0_17 a0_18 f0_18 a0_19 f0_19 a0_20 f0_20 a0_21 f0_21 a0_22 f0_22 a0_23 f0_23).mono fun e W' ⟨he, bel⟩ => ?_
  subst he
  exact ⟨_, rfl, _, _, _, [], _, [], hW', trodAll_mk1 (shut_bool (show Tryd.prog.underlying 4 = some .bool by kernel_rfl) _), (trodAll_cons_mk (Below.trod laidOut (by kernel_rfl) (of_decide_eq_true (by kernel_rfl)) k0 bel lt0) trodAll_mk0), rfl, bel.frame _, fun h => by cases h⟩

theorem over : Rows.commandOwnRow.holds Tryd.pinned (OpenSpec.ofChange Rows.commandOwnSpec) :=
  OpenClaim.holds_of_wide 3 Tryd.f3 rfl rfl rfl rfl rfl rfl rfl ⟨rfl, rfl, rfl, rfl, rfl⟩ rfl rfl rfl rfl rfl (by kernel_rfl) Tryd.func3 (by kernel_rfl)
    (of_decide_eq_true (by kernel_rfl)) (by unfold Func.isWrapper; first | (rw [if_pos (by decide +kernel)]; kernel_rfl) | (rw [if_neg (by decide +kernel)]; exact ⟨rfl, rfl⟩))
    (fun os started H enc _ => lifted os started H enc)

set_option maxRecDepth 100000 in
theorem carded : Rows.CommandOwnCardSaid :=
  Claim7.holds_tied_plain_at .later [] [.widerDeep] true (true, "da16f88998dd8bb1e0ef5ea89a7239a48b529f79ad6cdc3f7f36e571084bbeca") true
    over (fun _ h => by cases h) (by kernel_rfl) (fun _ h => by cases h) commandOwn_row_tie rfl ⟨rfl, rfl⟩ (by kernel_rfl) rfl
    (fun f fn hf hfn => by
      obtain rfl : f = 3 := Option.some.inj ((show Tryd.prog.funcNamed Rows.commandOwnRow.func = some 3 by kernel_rfl).symm.trans hf) |>.symm
      obtain rfl : fn = Tryd.f3 := (Option.some.inj (Tryd.func3.symm.trans hfn)).symm
      exact ⟨by kernel_rfl, fun j t ht => by
        rw [Tryd.params3] at ht
        have hm : t ∈ [32] := by simpa using Array.mem_of_getElem? ht
        have hall : ([32].all fun u => !Tryd.prog.wantsStandIn u) = true := by kernel_rfl
        exact (show Tryd.prog.wantsStandIn t = false by simpa using List.all_eq_true.1 hall t hm)⟩)
    (by kernel_rfl)

/-- The statement. -/
theorem proved : Rows.CommandOwnCardSaid := carded
#print axioms proved
end Go.Proofs.YtjhffbhjiflfeaaDoor.commandOwnProof
