/-
  No cell of these rows narrows 'for every input' (looked for: loops, veiled, ifaces, maps, wideKeys, modest, calm, conditions, laid).
  DERIVED. THE GIVEN ROWS OF THIS SEAT. 7 by the template 'for every input the law returns true; each argument reads behind the call as it read before'; 0 by the template 'total and deterministic' (their statements: YtafhdpldkbhdcaaTotals.lean).
  GIVEN WITH THE SEED: the statements are not yours to turn. If you find one false, say at which input.
  Laid BY PROGRAM, IN A SANDBOX (cutbox-rows.mjs): the forced cells as the released guide's own fill.sh prints them over the translation c55b45bbbbb9cac9… (all of the seat's roots in one cut). By AI agents, Wed Nov 11 2026. No macro, syntax, notation, axiom, sorry.
-/
import Derived.Test.YtafhdpldkbhdcaaChecked
import GoSem.Claim
import GoSem.ClaimJoined
import GoSem.ClaimMapViews
import Derived.JoinedTies
import Derived.KernelRfl
namespace Go.Proofs.Ytafhdpldkbhdcaa
/- THE CELL 'sum', in the pinned program and in every row, IS THE sha256 OF THE DUMP (.gsa) THAT YtafhdpldkbhdcaaProg.lean LOADS. Nothing in Lean hashes anything: it is a label: what it is worth is what the hold of that sum in a sandbox is worth. -/
noncomputable def Try.pinned : Pinned := { name := "ytafhdpldkbhdcaa", sum := "c55b45bbbbb9cac99451cdd9eb70d48bcd433ff9306e25ad0382dcb11ada37ca", checked := Try.checked }
namespace Rows
def none {H : Type} : Left H := { results := [], args := [] }

/-- 'distributarylaw01.WideProducts': WHATEVER THE INPUT: true; the input reads as it did. -/
def wideProductsSpec : ChangeSpec := { name := "wideProducts", fn := fun _ => fun
  | [d1, d2, d3, d4, d5, d6] => { results := [.lit (.bool true)], args := [d1, d2, d3, d4, d5, d6] }
  | _ => none }
def wideProductsRow : OpenClaim := { program := "ytafhdpldkbhdcaa", sum := "c55b45bbbbb9cac99451cdd9eb70d48bcd433ff9306e25ad0382dcb11ada37ca", func := "distributary/distributarylaw01.WideProducts", spec := "wideProducts", inPlace := ["math/bits.Add64"], apart := false }
def WideProductsSaid : Prop := wideProductsRow.holds Try.pinned (OpenSpec.ofChange wideProductsSpec)

/-- ITS FALSE NEIGHBOUR: 'it returns false'. Refute it at one input. -/
def wideProductsWrong : ChangeSpec := { name := "wideProducts", fn := fun _ => fun
  | [d1, d2, d3, d4, d5, d6] => { results := [.lit (.bool false)], args := [d1, d2, d3, d4, d5, d6] }
  | _ => none }
def WideProductsWrongFalsely : Prop := wideProductsRow.holds Try.pinned (OpenSpec.ofChange wideProductsWrong)

/-- 'distributarylaw01.WideFractions': WHATEVER THE INPUT: true; the input reads as it did. -/
def wideFractionsSpec : ChangeSpec := { name := "wideFractions", fn := fun _ => fun
  | [d1, d2, d3, d4, d5, d6, d7] => { results := [.lit (.bool true)], args := [d1, d2, d3, d4, d5, d6, d7] }
  | _ => none }
def wideFractionsRow : OpenClaim := { program := "ytafhdpldkbhdcaa", sum := "c55b45bbbbb9cac99451cdd9eb70d48bcd433ff9306e25ad0382dcb11ada37ca", func := "distributary/distributarylaw01.WideFractions", spec := "wideFractions", inPlace := ["math/bits.Sub64"], named := ["math/bits.divideError", "math/bits.overflowError"], apart := false }
def WideFractionsSaid : Prop := wideFractionsRow.holds Try.pinned (OpenSpec.ofChange wideFractionsSpec)

/-- ITS FALSE NEIGHBOUR: 'it returns false'. Refute it at one input. -/
def wideFractionsWrong : ChangeSpec := { name := "wideFractions", fn := fun _ => fun
  | [d1, d2, d3, d4, d5, d6, d7] => { results := [.lit (.bool false)], args := [d1, d2, d3, d4, d5, d6, d7] }
  | _ => none }
def WideFractionsWrongFalsely : Prop := wideFractionsRow.holds Try.pinned (OpenSpec.ofChange wideFractionsWrong)

/-- 'distributarylaw01.WideSums': WHATEVER THE INPUT: true; the input reads as it did. -/
def wideSumsSpec : ChangeSpec := { name := "wideSums", fn := fun _ => fun
  | [d1, d2, d3] => { results := [.lit (.bool true)], args := [d1, d2, d3] }
  | _ => none }
def wideSumsRow : OpenClaim := { program := "ytafhdpldkbhdcaa", sum := "c55b45bbbbb9cac99451cdd9eb70d48bcd433ff9306e25ad0382dcb11ada37ca", func := "distributary/distributarylaw01.WideSums", spec := "wideSums", inPlace := ["math/bits.Add64", "math/bits.Sub64"], named := ["math/bits.divideError", "math/bits.overflowError"], apart := false }
def WideSumsSaid : Prop := wideSumsRow.holds Try.pinned (OpenSpec.ofChange wideSumsSpec)

/-- ITS FALSE NEIGHBOUR: 'it returns false'. Refute it at one input. -/
def wideSumsWrong : ChangeSpec := { name := "wideSums", fn := fun _ => fun
  | [d1, d2, d3] => { results := [.lit (.bool false)], args := [d1, d2, d3] }
  | _ => none }
def WideSumsWrongFalsely : Prop := wideSumsRow.holds Try.pinned (OpenSpec.ofChange wideSumsWrong)

/-- 'distributarylaw01.WideDistributes': WHATEVER THE INPUT: true; the input reads as it did. -/
def wideDistributesSpec : ChangeSpec := { name := "wideDistributes", fn := fun _ => fun
  | [d1, d2, d3, d4, d5] => { results := [.lit (.bool true)], args := [d1, d2, d3, d4, d5] }
  | _ => none }
def wideDistributesRow : OpenClaim := { program := "ytafhdpldkbhdcaa", sum := "c55b45bbbbb9cac99451cdd9eb70d48bcd433ff9306e25ad0382dcb11ada37ca", func := "distributary/distributarylaw01.WideDistributes", spec := "wideDistributes", inPlace := ["math/bits.Sub64", "math/bits.Add64"], named := ["math/bits.divideError", "math/bits.overflowError"], apart := false }
def WideDistributesSaid : Prop := wideDistributesRow.holds Try.pinned (OpenSpec.ofChange wideDistributesSpec)

/-- ITS FALSE NEIGHBOUR: 'it returns false'. Refute it at one input. -/
def wideDistributesWrong : ChangeSpec := { name := "wideDistributes", fn := fun _ => fun
  | [d1, d2, d3, d4, d5] => { results := [.lit (.bool false)], args := [d1, d2, d3, d4, d5] }
  | _ => none }
def WideDistributesWrongFalsely : Prop := wideDistributesRow.holds Try.pinned (OpenSpec.ofChange wideDistributesWrong)

/-- 'distributarylaw01.WideDivides': WHATEVER THE INPUT: true; the input reads as it did. -/
def wideDividesSpec : ChangeSpec := { name := "wideDivides", fn := fun _ => fun
  | [d1, d2] => { results := [.lit (.bool true)], args := [d1, d2] }
  | _ => none }
def wideDividesRow : OpenClaim := { program := "ytafhdpldkbhdcaa", sum := "c55b45bbbbb9cac99451cdd9eb70d48bcd433ff9306e25ad0382dcb11ada37ca", func := "distributary/distributarylaw01.WideDivides", spec := "wideDivides", inPlace := ["math/bits.Sub64", "math/bits.Add64"], named := ["math/bits.divideError", "math/bits.overflowError"], apart := false }
def WideDividesSaid : Prop := wideDividesRow.holds Try.pinned (OpenSpec.ofChange wideDividesSpec)

/-- ITS FALSE NEIGHBOUR: 'it returns false'. Refute it at one input. -/
def wideDividesWrong : ChangeSpec := { name := "wideDivides", fn := fun _ => fun
  | [d1, d2] => { results := [.lit (.bool false)], args := [d1, d2] }
  | _ => none }
def WideDividesWrongFalsely : Prop := wideDividesRow.holds Try.pinned (OpenSpec.ofChange wideDividesWrong)

/-- 'distributarylaw01.WideOrder': WHATEVER THE INPUT: true; the input reads as it did. -/
def wideOrderSpec : ChangeSpec := { name := "wideOrder", fn := fun _ => fun
  | [d1, d2, d3, d4, d5, d6] => { results := [.lit (.bool true)], args := [d1, d2, d3, d4, d5, d6] }
  | _ => none }
def wideOrderRow : OpenClaim := { program := "ytafhdpldkbhdcaa", sum := "c55b45bbbbb9cac99451cdd9eb70d48bcd433ff9306e25ad0382dcb11ada37ca", func := "distributary/distributarylaw01.WideOrder", spec := "wideOrder", inPlace := ["math/bits.Sub64", "math/bits.Add64"], named := ["math/bits.divideError", "math/bits.overflowError"], apart := false }
def WideOrderSaid : Prop := wideOrderRow.holds Try.pinned (OpenSpec.ofChange wideOrderSpec)

/-- ITS FALSE NEIGHBOUR: 'it returns false'. Refute it at one input. -/
def wideOrderWrong : ChangeSpec := { name := "wideOrder", fn := fun _ => fun
  | [d1, d2, d3, d4, d5, d6] => { results := [.lit (.bool false)], args := [d1, d2, d3, d4, d5, d6] }
  | _ => none }
def WideOrderWrongFalsely : Prop := wideOrderRow.holds Try.pinned (OpenSpec.ofChange wideOrderWrong)

/-- 'distributarylaw01.WideRows': WHATEVER THE INPUT: true; the input reads as it did. -/
def wideRowsSpec : ChangeSpec := { name := "wideRows", fn := fun _ => fun
  | [d1, d2, d3] => { results := [.lit (.bool true)], args := [d1, d2, d3] }
  | _ => none }
def wideRowsRow : OpenClaim := { program := "ytafhdpldkbhdcaa", sum := "c55b45bbbbb9cac99451cdd9eb70d48bcd433ff9306e25ad0382dcb11ada37ca", func := "distributary/distributarylaw01.WideRows", spec := "wideRows", inPlace := ["math/bits.Sub64", "math/bits.Add64"], named := ["math/bits.divideError", "math/bits.overflowError"], apart := false }
def WideRowsSaid : Prop := wideRowsRow.holds Try.pinned (OpenSpec.ofChange wideRowsSpec)

/-- ITS FALSE NEIGHBOUR: 'it returns false'. Refute it at one input. -/
def wideRowsWrong : ChangeSpec := { name := "wideRows", fn := fun _ => fun
  | [d1, d2, d3] => { results := [.lit (.bool false)], args := [d1, d2, d3] }
  | _ => none }
def WideRowsWrongFalsely : Prop := wideRowsRow.holds Try.pinned (OpenSpec.ofChange wideRowsWrong)

/- THE SECOND FORM. 'bulk': how many values and letters a reading holds, each counted each time it is reached (what is shared counts as often as it is met; a slice's spare places count too). A statement '..UptoSaid' is the law's where the arguments, and the package variables that the reading takes, are together of bulk at most 1048576: NARROWER than '..Said'. Prove '..Said' where nothing that the law and all that it calls make is longer than what came in: it says more and counts as full. Else prove '..UptoSaid'. A law counts once. -/
mutual
def uptoBulk {H : Type} : DataW H → Nat
  | .lit (.string bytes) => bytes.length + 1
  | .lit _ => 1
  | .nil => 1
  | .ptr d => uptoBulk d + 1
  | .slice elems spare => uptoBulkAll elems + uptoBulkAll spare + 1
  | .agg parts => uptoBulkAll parts + 1
  | .iface _ d => uptoBulk d + 1
  | .map entries => uptoBulkEntries entries + 1
  | .held _ => 1
def uptoBulkAll {H : Type} : List (DataW H) → Nat
  | [] => 0
  | d :: r => uptoBulk d + uptoBulkAll r
def uptoBulkEntries {H : Type} : List (Lit × DataW H) → Nat
  | [] => 0
  | x :: r => uptoBulkEntry x + uptoBulkEntries r
def uptoBulkEntry {H : Type} : Lit × DataW H → Nat
  | (.string bytes, d) => bytes.length + uptoBulk d + 1
  | (_, d) => uptoBulk d + 1
 end
def uptoSmall : (H : Type) → List (DataW H) → Bool := fun _ ds => decide (uptoBulkAll ds ≤ 1048576)
def OpenSpec.upto (s : _root_.Go.ChangeSpec) : _root_.Go.OpenSpec := { _root_.Go.OpenSpec.ofChange s with cond := some uptoSmall }

/-- 'distributarylaw01.WideProducts', WHERE WHAT IT READS IS OF BULK AT MOST 1048576: true; the input reads as it did. -/
def wideProductsUptoRow : OpenClaim := { program := "ytafhdpldkbhdcaa", sum := "c55b45bbbbb9cac99451cdd9eb70d48bcd433ff9306e25ad0382dcb11ada37ca", func := "distributary/distributarylaw01.WideProducts", spec := "wideProducts", inPlace := ["math/bits.Add64"], apart := false, narrowed := true }
def WideProductsUptoSaid : Prop := wideProductsUptoRow.holds Try.pinned (OpenSpec.upto wideProductsSpec)

/-- 'distributarylaw01.WideFractions', WHERE WHAT IT READS IS OF BULK AT MOST 1048576: true; the input reads as it did. -/
def wideFractionsUptoRow : OpenClaim := { program := "ytafhdpldkbhdcaa", sum := "c55b45bbbbb9cac99451cdd9eb70d48bcd433ff9306e25ad0382dcb11ada37ca", func := "distributary/distributarylaw01.WideFractions", spec := "wideFractions", inPlace := ["math/bits.Sub64"], named := ["math/bits.divideError", "math/bits.overflowError"], apart := false, narrowed := true }
def WideFractionsUptoSaid : Prop := wideFractionsUptoRow.holds Try.pinned (OpenSpec.upto wideFractionsSpec)

/-- 'distributarylaw01.WideSums', WHERE WHAT IT READS IS OF BULK AT MOST 1048576: true; the input reads as it did. -/
def wideSumsUptoRow : OpenClaim := { program := "ytafhdpldkbhdcaa", sum := "c55b45bbbbb9cac99451cdd9eb70d48bcd433ff9306e25ad0382dcb11ada37ca", func := "distributary/distributarylaw01.WideSums", spec := "wideSums", inPlace := ["math/bits.Add64", "math/bits.Sub64"], named := ["math/bits.divideError", "math/bits.overflowError"], apart := false, narrowed := true }
def WideSumsUptoSaid : Prop := wideSumsUptoRow.holds Try.pinned (OpenSpec.upto wideSumsSpec)

/-- 'distributarylaw01.WideDistributes', WHERE WHAT IT READS IS OF BULK AT MOST 1048576: true; the input reads as it did. -/
def wideDistributesUptoRow : OpenClaim := { program := "ytafhdpldkbhdcaa", sum := "c55b45bbbbb9cac99451cdd9eb70d48bcd433ff9306e25ad0382dcb11ada37ca", func := "distributary/distributarylaw01.WideDistributes", spec := "wideDistributes", inPlace := ["math/bits.Sub64", "math/bits.Add64"], named := ["math/bits.divideError", "math/bits.overflowError"], apart := false, narrowed := true }
def WideDistributesUptoSaid : Prop := wideDistributesUptoRow.holds Try.pinned (OpenSpec.upto wideDistributesSpec)

/-- 'distributarylaw01.WideDivides', WHERE WHAT IT READS IS OF BULK AT MOST 1048576: true; the input reads as it did. -/
def wideDividesUptoRow : OpenClaim := { program := "ytafhdpldkbhdcaa", sum := "c55b45bbbbb9cac99451cdd9eb70d48bcd433ff9306e25ad0382dcb11ada37ca", func := "distributary/distributarylaw01.WideDivides", spec := "wideDivides", inPlace := ["math/bits.Sub64", "math/bits.Add64"], named := ["math/bits.divideError", "math/bits.overflowError"], apart := false, narrowed := true }
def WideDividesUptoSaid : Prop := wideDividesUptoRow.holds Try.pinned (OpenSpec.upto wideDividesSpec)

/-- 'distributarylaw01.WideOrder', WHERE WHAT IT READS IS OF BULK AT MOST 1048576: true; the input reads as it did. -/
def wideOrderUptoRow : OpenClaim := { program := "ytafhdpldkbhdcaa", sum := "c55b45bbbbb9cac99451cdd9eb70d48bcd433ff9306e25ad0382dcb11ada37ca", func := "distributary/distributarylaw01.WideOrder", spec := "wideOrder", inPlace := ["math/bits.Sub64", "math/bits.Add64"], named := ["math/bits.divideError", "math/bits.overflowError"], apart := false, narrowed := true }
def WideOrderUptoSaid : Prop := wideOrderUptoRow.holds Try.pinned (OpenSpec.upto wideOrderSpec)

/-- 'distributarylaw01.WideRows', WHERE WHAT IT READS IS OF BULK AT MOST 1048576: true; the input reads as it did. -/
def wideRowsUptoRow : OpenClaim := { program := "ytafhdpldkbhdcaa", sum := "c55b45bbbbb9cac99451cdd9eb70d48bcd433ff9306e25ad0382dcb11ada37ca", func := "distributary/distributarylaw01.WideRows", spec := "wideRows", inPlace := ["math/bits.Sub64", "math/bits.Add64"], named := ["math/bits.divideError", "math/bits.overflowError"], apart := false, narrowed := true }
def WideRowsUptoSaid : Prop := wideRowsUptoRow.holds Try.pinned (OpenSpec.upto wideRowsSpec)

end Rows
end Go.Proofs.Ytafhdpldkbhdcaa
