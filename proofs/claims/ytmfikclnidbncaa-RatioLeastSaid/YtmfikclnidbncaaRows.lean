/-
  No cell of these rows narrows 'for every input' (looked for: loops, veiled, ifaces, maps, wideKeys, modest, calm, conditions, laid).
  DERIVED. THE GIVEN ROWS OF THIS SEAT. 11 by the template 'for every input the law returns true; each argument reads behind the call as it read before'; 0 by the template 'total and deterministic' (their statements: YtmfikclnidbncaaTotals.lean).
  GIVEN WITH THE SEED: the statements are not yours to turn. If you find one false, say at which input.
  Laid BY PROGRAM, IN A SANDBOX (cutbox-rows.mjs): the forced cells as the released guide's own fill.sh prints them over the translation 00b5a74c925723e3… (all of the seat's roots in one cut). By AI agents, Wed Nov 11 2026. No macro, syntax, notation, axiom, sorry.
-/
import Derived.Test.YtmfikclnidbncaaChecked
import GoSem.Claim
import GoSem.ClaimJoined
import GoSem.ClaimMapViews
import Derived.JoinedTies
import Derived.KernelRfl
namespace Go.Proofs.Ytmfikclnidbncaa
/- THE CELL 'sum', in the pinned program and in every row, IS THE sha256 OF THE DUMP (.gsa) THAT YtmfikclnidbncaaProg.lean LOADS. Nothing in Lean hashes anything: it is a label: what it is worth is what the hold of that sum in a sandbox is worth. -/
noncomputable def Try.pinned : Pinned := { name := "ytmfikclnidbncaa", sum := "00b5a74c925723e35255fec859f7e878e93e4facf8f322c70fe1942d5079b037", checked := Try.checked }
namespace Rows
def none {H : Type} : Left H := { results := [], args := [] }

/-- 'distributarylaw02.RatioSums': WHATEVER THE INPUT: true; the input reads as it did. -/
def ratioSumsSpec : ChangeSpec := { name := "ratioSums", fn := fun _ => fun
  | [d1, d2] => { results := [.lit (.bool true)], args := [d1, d2] }
  | _ => none }
def ratioSumsRow : OpenClaim := { program := "ytmfikclnidbncaa", sum := "00b5a74c925723e35255fec859f7e878e93e4facf8f322c70fe1942d5079b037", func := "distributary/distributarylaw02.RatioSums", spec := "ratioSums", apart := false }
def RatioSumsSaid : Prop := ratioSumsRow.holds Try.pinned (OpenSpec.ofChange ratioSumsSpec)

/-- ITS FALSE NEIGHBOUR: 'it returns false'. Refute it at one input. -/
def ratioSumsWrong : ChangeSpec := { name := "ratioSums", fn := fun _ => fun
  | [d1, d2] => { results := [.lit (.bool false)], args := [d1, d2] }
  | _ => none }
def RatioSumsWrongFalsely : Prop := ratioSumsRow.holds Try.pinned (OpenSpec.ofChange ratioSumsWrong)

/-- 'distributarylaw24.LinkNil': WHATEVER THE INPUT: true; the input reads as it did. -/
def linkNilSpec : ChangeSpec := { name := "linkNil", fn := fun _ => fun
  | [d1, d2] => { results := [.lit (.bool true)], args := [d1, d2] }
  | _ => none }
def linkNilRow : OpenClaim := { program := "ytmfikclnidbncaa", sum := "00b5a74c925723e35255fec859f7e878e93e4facf8f322c70fe1942d5079b037", func := "distributary/distributarylaw24.LinkNil", spec := "linkNil", unfollowed := true, recurses := true, apart := false }
def LinkNilSaid : Prop := linkNilRow.holds Try.pinned (OpenSpec.ofChange linkNilSpec)

/-- ITS FALSE NEIGHBOUR: 'it returns false'. Refute it at one input. -/
def linkNilWrong : ChangeSpec := { name := "linkNil", fn := fun _ => fun
  | [d1, d2] => { results := [.lit (.bool false)], args := [d1, d2] }
  | _ => none }
def LinkNilWrongFalsely : Prop := linkNilRow.holds Try.pinned (OpenSpec.ofChange linkNilWrong)

/-- 'distributarylaw24.LinkExact': WHATEVER THE INPUT: true; the input reads as it did. -/
def linkExactSpec : ChangeSpec := { name := "linkExact", fn := fun _ => fun
  | [d1, d2, d3] => { results := [.lit (.bool true)], args := [d1, d2, d3] }
  | _ => none }
def linkExactRow : OpenClaim := { program := "ytmfikclnidbncaa", sum := "00b5a74c925723e35255fec859f7e878e93e4facf8f322c70fe1942d5079b037", func := "distributary/distributarylaw24.LinkExact", spec := "linkExact", unfollowed := true, recurses := true, apart := false }
def LinkExactSaid : Prop := linkExactRow.holds Try.pinned (OpenSpec.ofChange linkExactSpec)

/-- ITS FALSE NEIGHBOUR: 'it returns false'. Refute it at one input. -/
def linkExactWrong : ChangeSpec := { name := "linkExact", fn := fun _ => fun
  | [d1, d2, d3] => { results := [.lit (.bool false)], args := [d1, d2, d3] }
  | _ => none }
def LinkExactWrongFalsely : Prop := linkExactRow.holds Try.pinned (OpenSpec.ofChange linkExactWrong)

/-- 'distributarylaw24.LinkNever': WHATEVER THE INPUT: true; the input reads as it did. -/
def linkNeverSpec : ChangeSpec := { name := "linkNever", fn := fun _ => fun
  | [d1, d2] => { results := [.lit (.bool true)], args := [d1, d2] }
  | _ => none }
def linkNeverRow : OpenClaim := { program := "ytmfikclnidbncaa", sum := "00b5a74c925723e35255fec859f7e878e93e4facf8f322c70fe1942d5079b037", func := "distributary/distributarylaw24.LinkNever", spec := "linkNever", unfollowed := true, recurses := true, apart := false }
def LinkNeverSaid : Prop := linkNeverRow.holds Try.pinned (OpenSpec.ofChange linkNeverSpec)

/-- ITS FALSE NEIGHBOUR: 'it returns false'. Refute it at one input. -/
def linkNeverWrong : ChangeSpec := { name := "linkNever", fn := fun _ => fun
  | [d1, d2] => { results := [.lit (.bool false)], args := [d1, d2] }
  | _ => none }
def LinkNeverWrongFalsely : Prop := linkNeverRow.holds Try.pinned (OpenSpec.ofChange linkNeverWrong)

/-- 'distributarylaw24.LinkAlone': WHATEVER THE INPUT: true; the input reads as it did. -/
def linkAloneSpec : ChangeSpec := { name := "linkAlone", fn := fun _ => fun
  | [d1, d2, d3, d4, d5] => { results := [.lit (.bool true)], args := [d1, d2, d3, d4, d5] }
  | _ => none }
def linkAloneRow : OpenClaim := { program := "ytmfikclnidbncaa", sum := "00b5a74c925723e35255fec859f7e878e93e4facf8f322c70fe1942d5079b037", func := "distributary/distributarylaw24.LinkAlone", spec := "linkAlone", unfollowed := true, recurses := true, apart := false }
def LinkAloneSaid : Prop := linkAloneRow.holds Try.pinned (OpenSpec.ofChange linkAloneSpec)

/-- ITS FALSE NEIGHBOUR: 'it returns false'. Refute it at one input. -/
def linkAloneWrong : ChangeSpec := { name := "linkAlone", fn := fun _ => fun
  | [d1, d2, d3, d4, d5] => { results := [.lit (.bool false)], args := [d1, d2, d3, d4, d5] }
  | _ => none }
def LinkAloneWrongFalsely : Prop := linkAloneRow.holds Try.pinned (OpenSpec.ofChange linkAloneWrong)

/-- 'distributarylaw02.RatioRounds': WHATEVER THE INPUT: true; the input reads as it did. -/
def ratioRoundsSpec : ChangeSpec := { name := "ratioRounds", fn := fun _ => fun
  | [d1, d2, d3] => { results := [.lit (.bool true)], args := [d1, d2, d3] }
  | _ => none }
def ratioRoundsRow : OpenClaim := { program := "ytmfikclnidbncaa", sum := "00b5a74c925723e35255fec859f7e878e93e4facf8f322c70fe1942d5079b037", func := "distributary/distributarylaw02.RatioRounds", spec := "ratioRounds", unfollowed := true, recurses := true, named := ["math/bits.divideError", "math/bits.overflowError"], apart := false }
def RatioRoundsSaid : Prop := ratioRoundsRow.holds Try.pinned (OpenSpec.ofChange ratioRoundsSpec)

/-- ITS FALSE NEIGHBOUR: 'it returns false'. Refute it at one input. -/
def ratioRoundsWrong : ChangeSpec := { name := "ratioRounds", fn := fun _ => fun
  | [d1, d2, d3] => { results := [.lit (.bool false)], args := [d1, d2, d3] }
  | _ => none }
def RatioRoundsWrongFalsely : Prop := ratioRoundsRow.holds Try.pinned (OpenSpec.ofChange ratioRoundsWrong)

/-- 'distributarylaw02.RatioStops': WHATEVER THE INPUT: true; the input reads as it did. -/
def ratioStopsSpec : ChangeSpec := { name := "ratioStops", fn := fun _ => fun
  | [d1, d2, d3] => { results := [.lit (.bool true)], args := [d1, d2, d3] }
  | _ => none }
def ratioStopsRow : OpenClaim := { program := "ytmfikclnidbncaa", sum := "00b5a74c925723e35255fec859f7e878e93e4facf8f322c70fe1942d5079b037", func := "distributary/distributarylaw02.RatioStops", spec := "ratioStops", unfollowed := true, recurses := true, named := ["math/bits.divideError", "math/bits.overflowError"], apart := false }
def RatioStopsSaid : Prop := ratioStopsRow.holds Try.pinned (OpenSpec.ofChange ratioStopsSpec)

/-- ITS FALSE NEIGHBOUR: 'it returns false'. Refute it at one input. -/
def ratioStopsWrong : ChangeSpec := { name := "ratioStops", fn := fun _ => fun
  | [d1, d2, d3] => { results := [.lit (.bool false)], args := [d1, d2, d3] }
  | _ => none }
def RatioStopsWrongFalsely : Prop := ratioStopsRow.holds Try.pinned (OpenSpec.ofChange ratioStopsWrong)

/-- 'distributarylaw02.RatioGrows': WHATEVER THE INPUT: true; the input reads as it did. -/
def ratioGrowsSpec : ChangeSpec := { name := "ratioGrows", fn := fun _ => fun
  | [d1, d2, d3, d4] => { results := [.lit (.bool true)], args := [d1, d2, d3, d4] }
  | _ => none }
def ratioGrowsRow : OpenClaim := { program := "ytmfikclnidbncaa", sum := "00b5a74c925723e35255fec859f7e878e93e4facf8f322c70fe1942d5079b037", func := "distributary/distributarylaw02.RatioGrows", spec := "ratioGrows", unfollowed := true, recurses := true, named := ["math/bits.divideError", "math/bits.overflowError"], apart := false }
def RatioGrowsSaid : Prop := ratioGrowsRow.holds Try.pinned (OpenSpec.ofChange ratioGrowsSpec)

/-- ITS FALSE NEIGHBOUR: 'it returns false'. Refute it at one input. -/
def ratioGrowsWrong : ChangeSpec := { name := "ratioGrows", fn := fun _ => fun
  | [d1, d2, d3, d4] => { results := [.lit (.bool false)], args := [d1, d2, d3, d4] }
  | _ => none }
def RatioGrowsWrongFalsely : Prop := ratioGrowsRow.holds Try.pinned (OpenSpec.ofChange ratioGrowsWrong)

/-- 'distributarylaw02.RatioHalf': WHATEVER THE INPUT: true; the input reads as it did. -/
def ratioHalfSpec : ChangeSpec := { name := "ratioHalf", fn := fun _ => fun
  | [d1, d2] => { results := [.lit (.bool true)], args := [d1, d2] }
  | _ => none }
def ratioHalfRow : OpenClaim := { program := "ytmfikclnidbncaa", sum := "00b5a74c925723e35255fec859f7e878e93e4facf8f322c70fe1942d5079b037", func := "distributary/distributarylaw02.RatioHalf", spec := "ratioHalf", inPlace := ["math/bits.Add64"], unfollowed := true, recurses := true, named := ["math/bits.divideError", "math/bits.overflowError"], apart := false }
def RatioHalfSaid : Prop := ratioHalfRow.holds Try.pinned (OpenSpec.ofChange ratioHalfSpec)

/-- ITS FALSE NEIGHBOUR: 'it returns false'. Refute it at one input. -/
def ratioHalfWrong : ChangeSpec := { name := "ratioHalf", fn := fun _ => fun
  | [d1, d2] => { results := [.lit (.bool false)], args := [d1, d2] }
  | _ => none }
def RatioHalfWrongFalsely : Prop := ratioHalfRow.holds Try.pinned (OpenSpec.ofChange ratioHalfWrong)

/-- 'distributarylaw02.RatioDownUp': WHATEVER THE INPUT: true; the input reads as it did. -/
def ratioDownUpSpec : ChangeSpec := { name := "ratioDownUp", fn := fun _ => fun
  | [d1, d2, d3] => { results := [.lit (.bool true)], args := [d1, d2, d3] }
  | _ => none }
def ratioDownUpRow : OpenClaim := { program := "ytmfikclnidbncaa", sum := "00b5a74c925723e35255fec859f7e878e93e4facf8f322c70fe1942d5079b037", func := "distributary/distributarylaw02.RatioDownUp", spec := "ratioDownUp", unfollowed := true, recurses := true, named := ["math/bits.divideError", "math/bits.overflowError"], apart := false }
def RatioDownUpSaid : Prop := ratioDownUpRow.holds Try.pinned (OpenSpec.ofChange ratioDownUpSpec)

/-- ITS FALSE NEIGHBOUR: 'it returns false'. Refute it at one input. -/
def ratioDownUpWrong : ChangeSpec := { name := "ratioDownUp", fn := fun _ => fun
  | [d1, d2, d3] => { results := [.lit (.bool false)], args := [d1, d2, d3] }
  | _ => none }
def RatioDownUpWrongFalsely : Prop := ratioDownUpRow.holds Try.pinned (OpenSpec.ofChange ratioDownUpWrong)

/-- 'distributarylaw02.RatioLeast': WHATEVER THE INPUT: true; the input reads as it did. -/
def ratioLeastSpec : ChangeSpec := { name := "ratioLeast", fn := fun _ => fun
  | [d1, d2, d3] => { results := [.lit (.bool true)], args := [d1, d2, d3] }
  | _ => none }
def ratioLeastRow : OpenClaim := { program := "ytmfikclnidbncaa", sum := "00b5a74c925723e35255fec859f7e878e93e4facf8f322c70fe1942d5079b037", func := "distributary/distributarylaw02.RatioLeast", spec := "ratioLeast", unfollowed := true, recurses := true, named := ["math/bits.divideError", "math/bits.overflowError"], apart := false }
def RatioLeastSaid : Prop := ratioLeastRow.holds Try.pinned (OpenSpec.ofChange ratioLeastSpec)

/-- ITS FALSE NEIGHBOUR: 'it returns false'. Refute it at one input. -/
def ratioLeastWrong : ChangeSpec := { name := "ratioLeast", fn := fun _ => fun
  | [d1, d2, d3] => { results := [.lit (.bool false)], args := [d1, d2, d3] }
  | _ => none }
def RatioLeastWrongFalsely : Prop := ratioLeastRow.holds Try.pinned (OpenSpec.ofChange ratioLeastWrong)

/- THE SECOND FORM. 'bulk': how many values and letters a reading holds, each counted each time it is reached (what is shared counts as often as it is met; a slice's spare places count too). A statement '..UptoSaid' is the law's where the arguments, and the package variables that the reading takes, are together of bulk at most 1048576: NARROWER than '..Said'. Prove '..Said' where nothing that the law and all that it calls make is longer than what came in: it says more and counts as full. Else prove '..UptoSaid'. A law counts once. -/
mutual
def uptoBulk {H : Type} : DataW H → Nat
  | .lit (.string bytes) => bytes.length + 1
  | .lit _ => 1
  | .nil => 1
  | .ptr d => uptoBulk d + 1
  | .slice elems spare => uptoBulkAll elems + uptoBulkAll spare + 1
  | .agg parts => uptoBulkAll parts + 1
  | .iface _ d => uptoBulk d + 1
  | .map entries => uptoBulkEntries entries + 1
  | .held _ => 1
def uptoBulkAll {H : Type} : List (DataW H) → Nat
  | [] => 0
  | d :: r => uptoBulk d + uptoBulkAll r
def uptoBulkEntries {H : Type} : List (Lit × DataW H) → Nat
  | [] => 0
  | x :: r => uptoBulkEntry x + uptoBulkEntries r
def uptoBulkEntry {H : Type} : Lit × DataW H → Nat
  | (.string bytes, d) => bytes.length + uptoBulk d + 1
  | (_, d) => uptoBulk d + 1
 end
def uptoSmall : (H : Type) → List (DataW H) → Bool := fun _ ds => decide (uptoBulkAll ds ≤ 1048576)
def OpenSpec.upto (s : _root_.Go.ChangeSpec) : _root_.Go.OpenSpec := { _root_.Go.OpenSpec.ofChange s with cond := some uptoSmall }

/-- 'distributarylaw02.RatioSums', WHERE WHAT IT READS IS OF BULK AT MOST 1048576: true; the input reads as it did. -/
def ratioSumsUptoRow : OpenClaim := { program := "ytmfikclnidbncaa", sum := "00b5a74c925723e35255fec859f7e878e93e4facf8f322c70fe1942d5079b037", func := "distributary/distributarylaw02.RatioSums", spec := "ratioSums", apart := false, narrowed := true }
def RatioSumsUptoSaid : Prop := ratioSumsUptoRow.holds Try.pinned (OpenSpec.upto ratioSumsSpec)

/-- 'distributarylaw24.LinkNil', WHERE WHAT IT READS IS OF BULK AT MOST 1048576: true; the input reads as it did. -/
def linkNilUptoRow : OpenClaim := { program := "ytmfikclnidbncaa", sum := "00b5a74c925723e35255fec859f7e878e93e4facf8f322c70fe1942d5079b037", func := "distributary/distributarylaw24.LinkNil", spec := "linkNil", unfollowed := true, recurses := true, apart := false, narrowed := true }
def LinkNilUptoSaid : Prop := linkNilUptoRow.holds Try.pinned (OpenSpec.upto linkNilSpec)

/-- 'distributarylaw24.LinkExact', WHERE WHAT IT READS IS OF BULK AT MOST 1048576: true; the input reads as it did. -/
def linkExactUptoRow : OpenClaim := { program := "ytmfikclnidbncaa", sum := "00b5a74c925723e35255fec859f7e878e93e4facf8f322c70fe1942d5079b037", func := "distributary/distributarylaw24.LinkExact", spec := "linkExact", unfollowed := true, recurses := true, apart := false, narrowed := true }
def LinkExactUptoSaid : Prop := linkExactUptoRow.holds Try.pinned (OpenSpec.upto linkExactSpec)

/-- 'distributarylaw24.LinkNever', WHERE WHAT IT READS IS OF BULK AT MOST 1048576: true; the input reads as it did. -/
def linkNeverUptoRow : OpenClaim := { program := "ytmfikclnidbncaa", sum := "00b5a74c925723e35255fec859f7e878e93e4facf8f322c70fe1942d5079b037", func := "distributary/distributarylaw24.LinkNever", spec := "linkNever", unfollowed := true, recurses := true, apart := false, narrowed := true }
def LinkNeverUptoSaid : Prop := linkNeverUptoRow.holds Try.pinned (OpenSpec.upto linkNeverSpec)

/-- 'distributarylaw24.LinkAlone', WHERE WHAT IT READS IS OF BULK AT MOST 1048576: true; the input reads as it did. -/
def linkAloneUptoRow : OpenClaim := { program := "ytmfikclnidbncaa", sum := "00b5a74c925723e35255fec859f7e878e93e4facf8f322c70fe1942d5079b037", func := "distributary/distributarylaw24.LinkAlone", spec := "linkAlone", unfollowed := true, recurses := true, apart := false, narrowed := true }
def LinkAloneUptoSaid : Prop := linkAloneUptoRow.holds Try.pinned (OpenSpec.upto linkAloneSpec)

/-- 'distributarylaw02.RatioRounds', WHERE WHAT IT READS IS OF BULK AT MOST 1048576: true; the input reads as it did. -/
def ratioRoundsUptoRow : OpenClaim := { program := "ytmfikclnidbncaa", sum := "00b5a74c925723e35255fec859f7e878e93e4facf8f322c70fe1942d5079b037", func := "distributary/distributarylaw02.RatioRounds", spec := "ratioRounds", unfollowed := true, recurses := true, named := ["math/bits.divideError", "math/bits.overflowError"], apart := false, narrowed := true }
def RatioRoundsUptoSaid : Prop := ratioRoundsUptoRow.holds Try.pinned (OpenSpec.upto ratioRoundsSpec)

/-- 'distributarylaw02.RatioStops', WHERE WHAT IT READS IS OF BULK AT MOST 1048576: true; the input reads as it did. -/
def ratioStopsUptoRow : OpenClaim := { program := "ytmfikclnidbncaa", sum := "00b5a74c925723e35255fec859f7e878e93e4facf8f322c70fe1942d5079b037", func := "distributary/distributarylaw02.RatioStops", spec := "ratioStops", unfollowed := true, recurses := true, named := ["math/bits.divideError", "math/bits.overflowError"], apart := false, narrowed := true }
def RatioStopsUptoSaid : Prop := ratioStopsUptoRow.holds Try.pinned (OpenSpec.upto ratioStopsSpec)

/-- 'distributarylaw02.RatioGrows', WHERE WHAT IT READS IS OF BULK AT MOST 1048576: true; the input reads as it did. -/
def ratioGrowsUptoRow : OpenClaim := { program := "ytmfikclnidbncaa", sum := "00b5a74c925723e35255fec859f7e878e93e4facf8f322c70fe1942d5079b037", func := "distributary/distributarylaw02.RatioGrows", spec := "ratioGrows", unfollowed := true, recurses := true, named := ["math/bits.divideError", "math/bits.overflowError"], apart := false, narrowed := true }
def RatioGrowsUptoSaid : Prop := ratioGrowsUptoRow.holds Try.pinned (OpenSpec.upto ratioGrowsSpec)

/-- 'distributarylaw02.RatioHalf', WHERE WHAT IT READS IS OF BULK AT MOST 1048576: true; the input reads as it did. -/
def ratioHalfUptoRow : OpenClaim := { program := "ytmfikclnidbncaa", sum := "00b5a74c925723e35255fec859f7e878e93e4facf8f322c70fe1942d5079b037", func := "distributary/distributarylaw02.RatioHalf", spec := "ratioHalf", inPlace := ["math/bits.Add64"], unfollowed := true, recurses := true, named := ["math/bits.divideError", "math/bits.overflowError"], apart := false, narrowed := true }
def RatioHalfUptoSaid : Prop := ratioHalfUptoRow.holds Try.pinned (OpenSpec.upto ratioHalfSpec)

/-- 'distributarylaw02.RatioDownUp', WHERE WHAT IT READS IS OF BULK AT MOST 1048576: true; the input reads as it did. -/
def ratioDownUpUptoRow : OpenClaim := { program := "ytmfikclnidbncaa", sum := "00b5a74c925723e35255fec859f7e878e93e4facf8f322c70fe1942d5079b037", func := "distributary/distributarylaw02.RatioDownUp", spec := "ratioDownUp", unfollowed := true, recurses := true, named := ["math/bits.divideError", "math/bits.overflowError"], apart := false, narrowed := true }
def RatioDownUpUptoSaid : Prop := ratioDownUpUptoRow.holds Try.pinned (OpenSpec.upto ratioDownUpSpec)

/-- 'distributarylaw02.RatioLeast', WHERE WHAT IT READS IS OF BULK AT MOST 1048576: true; the input reads as it did. -/
def ratioLeastUptoRow : OpenClaim := { program := "ytmfikclnidbncaa", sum := "00b5a74c925723e35255fec859f7e878e93e4facf8f322c70fe1942d5079b037", func := "distributary/distributarylaw02.RatioLeast", spec := "ratioLeast", unfollowed := true, recurses := true, named := ["math/bits.divideError", "math/bits.overflowError"], apart := false, narrowed := true }
def RatioLeastUptoSaid : Prop := ratioLeastUptoRow.holds Try.pinned (OpenSpec.upto ratioLeastSpec)

end Rows
end Go.Proofs.Ytmfikclnidbncaa
