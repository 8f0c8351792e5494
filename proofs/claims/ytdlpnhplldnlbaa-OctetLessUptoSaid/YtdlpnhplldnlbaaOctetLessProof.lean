/-
  The statement OctetLessSaid is proved: for every input the law returns true and leaves its arguments as they read. No condition of ours.
-/
import Derived.Test.YtdlpnhplldnlbaaRows
import Derived.Test.YtdlpnhplldnlbaaOpen
import Derived.Test.YtdlpnhplldnlbaaOctLess
import Derived.JoinedCond
import Derived.Deep.Slices
namespace Go.Proofs.Ytdlpnhplldnlbaa.octetLessProof
open Go.ChangeShapes Go.WideShapes Go.ChangeAt Go.RowKit
open Go.ChangeMaps (open_string shut_string)
set_option linter.unusedVariables false
set_option linter.unusedSimpArgs false

theorem own : ownKnob Try.prog.godebug = none := by kernel_rfl
theorem laidOut : laidOutB Try.prog = true := by kernel_rfl

theorem flat5 : FlatT Try.prog 5 [.i .u8] := flat_int (by kernel_rfl) (by kernel_rfl)
theorem flat29 : FlatT Try.prog 29 [.i .u64] := flat_int (by kernel_rfl) (by kernel_rfl)
noncomputable def structOf31 : Array Field := match Try.prog.underlying 31 with | some (.struct fs) => fs | _ => #[]
theorem underS31 : Try.prog.underlying 31 = some (.struct structOf31) := by kernel_rfl
theorem sees31 : (structOf31.toList.map fun f => (f.type, f.offset)) = [(5, 0), (29, 1)] := by kernel_rfl
theorem flat31 : FlatT Try.prog 31 [.i .u8, .i .u64] := flat_seen underS31 sees31 (kss := [[.i .u8], [.i .u64]]) (by kernel_rfl) (⟨rfl, flat5, ⟨rfl, flat29, trivial⟩⟩) rfl

theorem bulk_pos {H : Type} (d : DataW H) : 1 ≤ Rows.uptoBulk d := by
  cases d with
  | lit l => cases l <;> simp only [Rows.uptoBulk] <;> omega
  | nil => simp only [Rows.uptoBulk]; omega
  | ptr d => simp only [Rows.uptoBulk]; omega
  | slice a b => simp only [Rows.uptoBulk]; omega
  | agg a => simp only [Rows.uptoBulk]; omega
  | iface a b => simp only [Rows.uptoBulk]; omega
  | map a => simp only [Rows.uptoBulk]; omega
  | held a => simp only [Rows.uptoBulk]; omega
theorem bulk_all {H : Type} (l : List (DataW H)) : l.length ≤ Rows.uptoBulkAll l := by
  induction l with
  | nil => exact Nat.zero_le _
  | cons d r ih => have := bulk_pos d; simp only [Rows.uptoBulkAll, List.length_cons]; omega
theorem slice_bulk {H : Type} {enc : TypeId × Value → H} {P : Program} {w : World} {base : Nat} {spare : Nat → Bool} {held : Bool} {t e : TypeId} {fuel : Nat} {cs : List Value} {x : DataW H × List MemPlace} (ht : P.underlying t = some (.slice e))
    (h : DataW.trod enc P w base spare held fuel t cs = some x) (A : Option Addr) (n c : Nat) (hc : cs = [.slice A n c]) : n ≤ Rows.uptoBulk x.1 := by
  rcases Go.Deep.open_slice ht h with ⟨rfl, rfl⟩ | ⟨a, len, cap, m, q, D, Pl, rfl, _, _, _, _, rfl, _⟩
  · injection hc with hc; injection hc with _ h1 _; omega
  · injection hc with hc; injection hc with _ h1 _; subst h1
    simp only [Rows.uptoBulk]
    have := bulk_all ((List.range len).map D)
    rw [List.length_map, List.length_range] at this
    omega

set_option maxRecDepth 100000 in
theorem lifted (os : Os) (started : os.Started) (H : Type) (enc : TypeId × Value → H) (F : Stop.Interp) :
    ReturnsInHanded {} Try.checked os 8 .any ((Rows.OpenSpec.upto Rows.octetLessSpec).pre6 enc Try.prog Try.f8 Rows.octetLessUptoRow.domain false) (((Rows.OpenSpec.upto Rows.octetLessSpec).at F).post enc Try.prog Try.f8 false true false false) := by
  refine returnsInHanded_of_cond (C := Try.checked) (s := Rows.OpenSpec.upto Rows.octetLessSpec) (k := Rows.uptoSmall) rfl own started (by kernel_rfl) Try.func8
    (OpenSpec.witness (enc := enc) (C := Try.checked) (s := Rows.OpenSpec.upto Rows.octetLessSpec) (k := Rows.uptoSmall) rfl false ⟨#[], #[.slice none 0 0, .int .i64 0], []⟩ 40 (by kernel_rfl) (by kernel_rfl) (by kernel_rfl)
      (x := ([.nil, .lit (.int .i64 0)], [], [])) (by kernel_rfl) rfl (by kernel_rfl)) ?_
  intro W base args ds gs before hval0 hW hcnd hk _
  have hval : ∀ (j : Nat) t v, Try.f8.params[j]? = some t → args[j]? = some v → Value.okWide Try.prog W .any base t v := hval0
  have hW' := hW
  obtain ⟨p, q, hA0, hV, rfl, hfz, hnd⟩ := hW
  have hA : DataW.TrodAll enc Try.prog W 0 (fun _ => true) true Try.f8.params.toList args.toList ds p := hA0
  rw [Try.params8] at hA hval
  obtain ⟨v0, vs0, d0, ds0, p0, q0, hargs, rfl, rfl, h0, r0⟩ := trodAll_cons hA
  obtain ⟨v1, vs1, d1, ds1, p1, q1, rfl, rfl, rfl, h1, r1⟩ := trodAll_cons r0
  obtain ⟨rfl, rfl, rfl⟩ := trodAll_nil r1
  obtain rfl : args = #[v0, v1] := by cases args; simp_all
  obtain ⟨rfl, rfl⟩ := trodVars_none hV
  have hbulk : Rows.uptoBulkAll [d0, d1] ≤ 1048576 := by have h : Rows.uptoBulkAll ([d0, d1] ++ ([] : List (DataW H))) ≤ 1048576 := of_decide_eq_true hk; simpa using h
  simp only [Rows.uptoBulkAll] at hbulk
  have k0 := h0
  have lt0 : ∀ x ∈ p0, x.block < W.heap.size := by obtain ⟨m, hm⟩ := k0; exact DataW.trod_lt m _ _ _ hm
  obtain ⟨A0, n0, c0, rfl⟩ := okWide_slice (show Try.prog.underlying 22 = some (.slice 31) by kernel_rfl) (hval 0 22 v0 rfl rfl)
  obtain ⟨fu0, hf0⟩ := h0
  obtain ⟨A', n', c', hcs0, hl0, hm0, hA0, hc0⟩ := open_flats (show Try.prog.underlying 22 = some (.slice 31) by kernel_rfl) flat31 (by decide) hf0
  simp [Value.cells] at hcs0
  obtain ⟨rfl, rfl, rfl⟩ := hcs0
  obtain ⟨F0_0, g0_0⟩ := column_int fun i hi => hc0 i hi 0 _ rfl
  obtain ⟨F0_1, g0_1⟩ := column_int fun i hi => hc0 i hi 1 _ rfl
  have k1 := h1
  have lt1 : ∀ x ∈ p1, x.block < W.heap.size := by obtain ⟨m, hm⟩ := k1; exact DataW.trod_lt m _ _ _ hm
  obtain ⟨a1, rfl, rfl, rfl, f1⟩ := open_int (k := .i64) (by kernel_rfl) (hval 1 3 v1 rfl rfl) h1
  have sb0 := slice_bulk (show Try.prog.underlying 22 = some (.slice 31) by kernel_rfl) hf0 A0 n0 c0 (by simp [Value.cells])
  have sm0 : n0 ≤ 1048576 := by simp only [] at sb0; omega
  clear hA0 hval0
  refine (octetLess_walk W A0 n0 c0 F0_0 (fun i hi => (g0_0 i hi).1) F0_1 (fun i hi => (g0_1 i hi).1) hl0 hm0 hA0 (fun b off hb i hi => (g0_0 i hi).2 b off hb) (fun b off hb i hi => (g0_1 i hi).2 b off hb) a1 f1 sm0).mono fun e W' ⟨he, bel⟩ => ?_
  subst he
  exact ⟨_, rfl, _, _, _, [], _, [], hW', trodAll_mk1 (shut_bool (show Try.prog.underlying 4 = some .bool by kernel_rfl) _), (trodAll_cons_mk (Below.trod laidOut (by kernel_rfl) (of_decide_eq_true (by kernel_rfl)) k0 bel lt0) (trodAll_cons_mk (Below.trod laidOut (by kernel_rfl) (of_decide_eq_true (by kernel_rfl)) k1 bel lt1) trodAll_mk0)), rfl, bel.frame _, fun h => by cases h⟩

theorem over : Rows.OctetLessUptoSaid :=
  OpenClaim.holds_of_cond 8 Try.f8 rfl rfl rfl rfl rfl rfl rfl ⟨rfl, rfl, rfl, rfl, rfl⟩ rfl rfl rfl rfl rfl (by kernel_rfl) Try.func8 (by kernel_rfl)
    (of_decide_eq_true (by kernel_rfl)) (by unfold Func.isWrapper; first | (rw [if_pos (by decide +kernel)]; kernel_rfl) | (rw [if_neg (by decide +kernel)]; exact ⟨rfl, rfl⟩))
    (fun os started H enc _ F => lifted os started H enc F)

/-- The statement. -/
theorem proved : Rows.OctetLessUptoSaid := over
#print axioms proved
end Go.Proofs.Ytdlpnhplldnlbaa.octetLessProof
