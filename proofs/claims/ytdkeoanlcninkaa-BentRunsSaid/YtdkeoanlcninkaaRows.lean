/-
  No cell of these rows narrows 'for every input' (looked for: loops, veiled, ifaces, maps, wideKeys, modest, calm, conditions, laid).
  DERIVED. THE GIVEN ROWS OF THIS SEAT. 7 by the template 'for every input the law returns true; each argument reads behind the call as it read before'; 0 by the template 'total and deterministic' (their statements: YtdkeoanlcninkaaTotals.lean).
  GIVEN WITH THE SEED: the statements are not yours to turn. If you find one false, say at which input.
  Laid BY PROGRAM, IN A SANDBOX (cutbox-rows.mjs): the forced cells as the released guide's own fill.sh prints them over the translation e6a75ce2856ebe2c… (all of the seat's roots in one cut). By AI agents, Wed Nov 11 2026. No macro, syntax, notation, axiom, sorry.
-/
import Derived.Test.YtdkeoanlcninkaaChecked
import GoSem.Claim
import GoSem.ClaimJoined
import GoSem.ClaimMapViews
import Derived.JoinedTies
import Derived.KernelRfl
namespace Go.Proofs.Ytdkeoanlcninkaa
/- THE CELL 'sum', in the pinned program and in every row, IS THE sha256 OF THE DUMP (.gsa) THAT YtdkeoanlcninkaaProg.lean LOADS. Nothing in Lean hashes anything: it is a label: what it is worth is what the hold of that sum in a sandbox is worth. -/
noncomputable def Try.pinned : Pinned := { name := "ytdkeoanlcninkaa", sum := "e6a75ce2856ebe2c862c8fb6b809a3769d714a05a0a256cb9ad82eef84f7037a", checked := Try.checked }
namespace Rows
def none {H : Type} : Left H := { results := [], args := [] }

/-- 'distributarylaw03.CurveOne': WHATEVER THE INPUT: true; the input reads as it did. -/
def curveOneSpec : ChangeSpec := { name := "curveOne", fn := fun _ => fun
  | [d1, d2] => { results := [.lit (.bool true)], args := [d1, d2] }
  | _ => none }
def curveOneRow : OpenClaim := { program := "ytdkeoanlcninkaa", sum := "e6a75ce2856ebe2c862c8fb6b809a3769d714a05a0a256cb9ad82eef84f7037a", func := "distributary/distributarylaw03.CurveOne", spec := "curveOne", unfollowed := true, recurses := true, named := ["math/bits.divideError", "math/bits.overflowError"], apart := false }
def CurveOneSaid : Prop := curveOneRow.holds Try.pinned (OpenSpec.ofChange curveOneSpec)

/-- ITS FALSE NEIGHBOUR: 'it returns false'. Refute it at one input. -/
def curveOneWrong : ChangeSpec := { name := "curveOne", fn := fun _ => fun
  | [d1, d2] => { results := [.lit (.bool false)], args := [d1, d2] }
  | _ => none }
def CurveOneWrongFalsely : Prop := curveOneRow.holds Try.pinned (OpenSpec.ofChange curveOneWrong)

/-- 'distributarylaw05.BentNone': WHATEVER THE INPUT: true; the input reads as it did. -/
def bentNoneSpec : ChangeSpec := { name := "bentNone", fn := fun _ => fun
  | [d] => { results := [.lit (.bool true)], args := [d] }
  | _ => none }
def bentNoneRow : OpenClaim := { program := "ytdkeoanlcninkaa", sum := "e6a75ce2856ebe2c862c8fb6b809a3769d714a05a0a256cb9ad82eef84f7037a", func := "distributary/distributarylaw05.BentNone", spec := "bentNone", unfollowed := true, recurses := true, named := ["math/bits.divideError", "math/bits.overflowError"], apart := false }
def BentNoneSaid : Prop := bentNoneRow.holds Try.pinned (OpenSpec.ofChange bentNoneSpec)

/-- ITS FALSE NEIGHBOUR: 'it returns false'. Refute it at one input. -/
def bentNoneWrong : ChangeSpec := { name := "bentNone", fn := fun _ => fun
  | [d] => { results := [.lit (.bool false)], args := [d] }
  | _ => none }
def BentNoneWrongFalsely : Prop := bentNoneRow.holds Try.pinned (OpenSpec.ofChange bentNoneWrong)

/-- 'distributarylaw05.BentBack': WHATEVER THE INPUT: true; the input reads as it did. -/
def bentBackSpec : ChangeSpec := { name := "bentBack", fn := fun _ => fun
  | [d1, d2, d3] => { results := [.lit (.bool true)], args := [d1, d2, d3] }
  | _ => none }
def bentBackRow : OpenClaim := { program := "ytdkeoanlcninkaa", sum := "e6a75ce2856ebe2c862c8fb6b809a3769d714a05a0a256cb9ad82eef84f7037a", func := "distributary/distributarylaw05.BentBack", spec := "bentBack", unfollowed := true, recurses := true, named := ["math/bits.divideError", "math/bits.overflowError"], apart := false }
def BentBackSaid : Prop := bentBackRow.holds Try.pinned (OpenSpec.ofChange bentBackSpec)

/-- ITS FALSE NEIGHBOUR: 'it returns false'. Refute it at one input. -/
def bentBackWrong : ChangeSpec := { name := "bentBack", fn := fun _ => fun
  | [d1, d2, d3] => { results := [.lit (.bool false)], args := [d1, d2, d3] }
  | _ => none }
def BentBackWrongFalsely : Prop := bentBackRow.holds Try.pinned (OpenSpec.ofChange bentBackWrong)

/-- 'distributarylaw05.BentRuns': WHATEVER THE INPUT: true; the input reads as it did. -/
def bentRunsSpec : ChangeSpec := { name := "bentRuns", fn := fun _ => fun
  | [d1, d2, d3] => { results := [.lit (.bool true)], args := [d1, d2, d3] }
  | _ => none }
def bentRunsRow : OpenClaim := { program := "ytdkeoanlcninkaa", sum := "e6a75ce2856ebe2c862c8fb6b809a3769d714a05a0a256cb9ad82eef84f7037a", func := "distributary/distributarylaw05.BentRuns", spec := "bentRuns", unfollowed := true, recurses := true, named := ["math/bits.divideError", "math/bits.overflowError"], apart := false }
def BentRunsSaid : Prop := bentRunsRow.holds Try.pinned (OpenSpec.ofChange bentRunsSpec)

/-- ITS FALSE NEIGHBOUR: 'it returns false'. Refute it at one input. -/
def bentRunsWrong : ChangeSpec := { name := "bentRuns", fn := fun _ => fun
  | [d1, d2, d3] => { results := [.lit (.bool false)], args := [d1, d2, d3] }
  | _ => none }
def BentRunsWrongFalsely : Prop := bentRunsRow.holds Try.pinned (OpenSpec.ofChange bentRunsWrong)

/-- 'distributarylaw05.BentLess': WHATEVER THE INPUT: true; the input reads as it did. -/
def bentLessSpec : ChangeSpec := { name := "bentLess", fn := fun _ => fun
  | [d1, d2, d3, d4] => { results := [.lit (.bool true)], args := [d1, d2, d3, d4] }
  | _ => none }
def bentLessRow : OpenClaim := { program := "ytdkeoanlcninkaa", sum := "e6a75ce2856ebe2c862c8fb6b809a3769d714a05a0a256cb9ad82eef84f7037a", func := "distributary/distributarylaw05.BentLess", spec := "bentLess", unfollowed := true, recurses := true, named := ["math/bits.divideError", "math/bits.overflowError"], apart := false }
def BentLessSaid : Prop := bentLessRow.holds Try.pinned (OpenSpec.ofChange bentLessSpec)

/-- ITS FALSE NEIGHBOUR: 'it returns false'. Refute it at one input. -/
def bentLessWrong : ChangeSpec := { name := "bentLess", fn := fun _ => fun
  | [d1, d2, d3, d4] => { results := [.lit (.bool false)], args := [d1, d2, d3, d4] }
  | _ => none }
def BentLessWrongFalsely : Prop := bentLessRow.holds Try.pinned (OpenSpec.ofChange bentLessWrong)

/-- 'distributarylaw05.BentLeast': WHATEVER THE INPUT: true; the input reads as it did. -/
def bentLeastSpec : ChangeSpec := { name := "bentLeast", fn := fun _ => fun
  | [d1, d2, d3] => { results := [.lit (.bool true)], args := [d1, d2, d3] }
  | _ => none }
def bentLeastRow : OpenClaim := { program := "ytdkeoanlcninkaa", sum := "e6a75ce2856ebe2c862c8fb6b809a3769d714a05a0a256cb9ad82eef84f7037a", func := "distributary/distributarylaw05.BentLeast", spec := "bentLeast", unfollowed := true, recurses := true, named := ["math/bits.divideError", "math/bits.overflowError"], apart := false }
def BentLeastSaid : Prop := bentLeastRow.holds Try.pinned (OpenSpec.ofChange bentLeastSpec)

/-- ITS FALSE NEIGHBOUR: 'it returns false'. Refute it at one input. -/
def bentLeastWrong : ChangeSpec := { name := "bentLeast", fn := fun _ => fun
  | [d1, d2, d3] => { results := [.lit (.bool false)], args := [d1, d2, d3] }
  | _ => none }
def BentLeastWrongFalsely : Prop := bentLeastRow.holds Try.pinned (OpenSpec.ofChange bentLeastWrong)

/-- 'distributarylaw05.BentShort': WHATEVER THE INPUT: true; the input reads as it did. -/
def bentShortSpec : ChangeSpec := { name := "bentShort", fn := fun _ => fun
  | [d1, d2, d3, d4] => { results := [.lit (.bool true)], args := [d1, d2, d3, d4] }
  | _ => none }
def bentShortRow : OpenClaim := { program := "ytdkeoanlcninkaa", sum := "e6a75ce2856ebe2c862c8fb6b809a3769d714a05a0a256cb9ad82eef84f7037a", func := "distributary/distributarylaw05.BentShort", spec := "bentShort", unfollowed := true, recurses := true, named := ["math/bits.divideError", "math/bits.overflowError"], apart := false }
def BentShortSaid : Prop := bentShortRow.holds Try.pinned (OpenSpec.ofChange bentShortSpec)

/-- ITS FALSE NEIGHBOUR: 'it returns false'. Refute it at one input. -/
def bentShortWrong : ChangeSpec := { name := "bentShort", fn := fun _ => fun
  | [d1, d2, d3, d4] => { results := [.lit (.bool false)], args := [d1, d2, d3, d4] }
  | _ => none }
def BentShortWrongFalsely : Prop := bentShortRow.holds Try.pinned (OpenSpec.ofChange bentShortWrong)

/- THE SECOND FORM. 'bulk': how many values and letters a reading holds, each counted each time it is reached (what is shared counts as often as it is met; a slice's spare places count too). A statement '..UptoSaid' is the law's where the arguments, and the package variables that the reading takes, are together of bulk at most 1048576: NARROWER than '..Said'. Prove '..Said' where nothing that the law and all that it calls make is longer than what came in: it says more and counts as full. Else prove '..UptoSaid'. A law counts once. -/
mutual
def uptoBulk {H : Type} : DataW H → Nat
  | .lit (.string bytes) => bytes.length + 1
  | .lit _ => 1
  | .nil => 1
  | .ptr d => uptoBulk d + 1
  | .slice elems spare => uptoBulkAll elems + uptoBulkAll spare + 1
  | .agg parts => uptoBulkAll parts + 1
  | .iface _ d => uptoBulk d + 1
  | .map entries => uptoBulkEntries entries + 1
  | .held _ => 1
def uptoBulkAll {H : Type} : List (DataW H) → Nat
  | [] => 0
  | d :: r => uptoBulk d + uptoBulkAll r
def uptoBulkEntries {H : Type} : List (Lit × DataW H) → Nat
  | [] => 0
  | x :: r => uptoBulkEntry x + uptoBulkEntries r
def uptoBulkEntry {H : Type} : Lit × DataW H → Nat
  | (.string bytes, d) => bytes.length + uptoBulk d + 1
  | (_, d) => uptoBulk d + 1
 end
def uptoSmall : (H : Type) → List (DataW H) → Bool := fun _ ds => decide (uptoBulkAll ds ≤ 1048576)
def OpenSpec.upto (s : _root_.Go.ChangeSpec) : _root_.Go.OpenSpec := { _root_.Go.OpenSpec.ofChange s with cond := some uptoSmall }

/-- 'distributarylaw03.CurveOne', WHERE WHAT IT READS IS OF BULK AT MOST 1048576: true; the input reads as it did. -/
def curveOneUptoRow : OpenClaim := { program := "ytdkeoanlcninkaa", sum := "e6a75ce2856ebe2c862c8fb6b809a3769d714a05a0a256cb9ad82eef84f7037a", func := "distributary/distributarylaw03.CurveOne", spec := "curveOne", unfollowed := true, recurses := true, named := ["math/bits.divideError", "math/bits.overflowError"], apart := false, narrowed := true }
def CurveOneUptoSaid : Prop := curveOneUptoRow.holds Try.pinned (OpenSpec.upto curveOneSpec)

/-- 'distributarylaw05.BentNone', WHERE WHAT IT READS IS OF BULK AT MOST 1048576: true; the input reads as it did. -/
def bentNoneUptoRow : OpenClaim := { program := "ytdkeoanlcninkaa", sum := "e6a75ce2856ebe2c862c8fb6b809a3769d714a05a0a256cb9ad82eef84f7037a", func := "distributary/distributarylaw05.BentNone", spec := "bentNone", unfollowed := true, recurses := true, named := ["math/bits.divideError", "math/bits.overflowError"], apart := false, narrowed := true }
def BentNoneUptoSaid : Prop := bentNoneUptoRow.holds Try.pinned (OpenSpec.upto bentNoneSpec)

/-- 'distributarylaw05.BentBack', WHERE WHAT IT READS IS OF BULK AT MOST 1048576: true; the input reads as it did. -/
def bentBackUptoRow : OpenClaim := { program := "ytdkeoanlcninkaa", sum := "e6a75ce2856ebe2c862c8fb6b809a3769d714a05a0a256cb9ad82eef84f7037a", func := "distributary/distributarylaw05.BentBack", spec := "bentBack", unfollowed := true, recurses := true, named := ["math/bits.divideError", "math/bits.overflowError"], apart := false, narrowed := true }
def BentBackUptoSaid : Prop := bentBackUptoRow.holds Try.pinned (OpenSpec.upto bentBackSpec)

/-- 'distributarylaw05.BentRuns', WHERE WHAT IT READS IS OF BULK AT MOST 1048576: true; the input reads as it did. -/
def bentRunsUptoRow : OpenClaim := { program := "ytdkeoanlcninkaa", sum := "e6a75ce2856ebe2c862c8fb6b809a3769d714a05a0a256cb9ad82eef84f7037a", func := "distributary/distributarylaw05.BentRuns", spec := "bentRuns", unfollowed := true, recurses := true, named := ["math/bits.divideError", "math/bits.overflowError"], apart := false, narrowed := true }
def BentRunsUptoSaid : Prop := bentRunsUptoRow.holds Try.pinned (OpenSpec.upto bentRunsSpec)

/-- 'distributarylaw05.BentLess', WHERE WHAT IT READS IS OF BULK AT MOST 1048576: true; the input reads as it did. -/
def bentLessUptoRow : OpenClaim := { program := "ytdkeoanlcninkaa", sum := "e6a75ce2856ebe2c862c8fb6b809a3769d714a05a0a256cb9ad82eef84f7037a", func := "distributary/distributarylaw05.BentLess", spec := "bentLess", unfollowed := true, recurses := true, named := ["math/bits.divideError", "math/bits.overflowError"], apart := false, narrowed := true }
def BentLessUptoSaid : Prop := bentLessUptoRow.holds Try.pinned (OpenSpec.upto bentLessSpec)

/-- 'distributarylaw05.BentLeast', WHERE WHAT IT READS IS OF BULK AT MOST 1048576: true; the input reads as it did. -/
def bentLeastUptoRow : OpenClaim := { program := "ytdkeoanlcninkaa", sum := "e6a75ce2856ebe2c862c8fb6b809a3769d714a05a0a256cb9ad82eef84f7037a", func := "distributary/distributarylaw05.BentLeast", spec := "bentLeast", unfollowed := true, recurses := true, named := ["math/bits.divideError", "math/bits.overflowError"], apart := false, narrowed := true }
def BentLeastUptoSaid : Prop := bentLeastUptoRow.holds Try.pinned (OpenSpec.upto bentLeastSpec)

/-- 'distributarylaw05.BentShort', WHERE WHAT IT READS IS OF BULK AT MOST 1048576: true; the input reads as it did. -/
def bentShortUptoRow : OpenClaim := { program := "ytdkeoanlcninkaa", sum := "e6a75ce2856ebe2c862c8fb6b809a3769d714a05a0a256cb9ad82eef84f7037a", func := "distributary/distributarylaw05.BentShort", spec := "bentShort", unfollowed := true, recurses := true, named := ["math/bits.divideError", "math/bits.overflowError"], apart := false, narrowed := true }
def BentShortUptoSaid : Prop := bentShortUptoRow.holds Try.pinned (OpenSpec.upto bentShortSpec)

end Rows
end Go.Proofs.Ytdkeoanlcninkaa
