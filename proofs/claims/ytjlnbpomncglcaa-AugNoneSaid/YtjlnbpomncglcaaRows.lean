/-
  No cell of these rows narrows 'for every input' (looked for: loops, veiled, ifaces, maps, wideKeys, modest, calm, conditions, laid).
  DERIVED. THE GIVEN ROWS OF THIS SEAT. 13 by the template 'for every input the law returns true; each argument reads behind the call as it read before'; 0 by the template 'total and deterministic' (their statements: YtjlnbpomncglcaaTotals.lean).
  GIVEN WITH THE SEED: the statements are not yours to turn. If you find one false, say at which input.
  Laid BY PROGRAM, IN A SANDBOX (cutbox-rows.mjs): the forced cells as the released guide's own fill.sh prints them over the translation 529cb65cc259b5a6… (all of the seat's roots in one cut). By AI agents, Wed Nov 11 2026. No macro, syntax, notation, axiom, sorry.
-/
import Derived.Test.YtjlnbpomncglcaaChecked
import GoSem.Claim
import GoSem.ClaimJoined
import GoSem.ClaimMapViews
import Derived.JoinedTies
import Derived.KernelRfl
namespace Go.Proofs.Ytjlnbpomncglcaa
/- THE CELL 'sum', in the pinned program and in every row, IS THE sha256 OF THE DUMP (.gsa) THAT YtjlnbpomncglcaaProg.lean LOADS. Nothing in Lean hashes anything: it is a label: what it is worth is what the hold of that sum in a sandbox is worth. -/
noncomputable def Try.pinned : Pinned := { name := "ytjlnbpomncglcaa", sum := "529cb65cc259b5a67b013f84f3d25eff67acbd7d757595231528f69418c5f30e", checked := Try.checked }
namespace Rows
def none {H : Type} : Left H := { results := [], args := [] }

/-- 'distributarylaw08.TreeAsks': WHATEVER THE INPUT: true; the input reads as it did. -/
def treeAsksSpec : ChangeSpec := { name := "treeAsks", fn := fun _ => fun
  | [d1, d2, d3] => { results := [.lit (.bool true)], args := [d1, d2, d3] }
  | _ => none }
def treeAsksRow : OpenClaim := { program := "ytjlnbpomncglcaa", sum := "529cb65cc259b5a67b013f84f3d25eff67acbd7d757595231528f69418c5f30e", func := "distributary/distributarylaw08.TreeAsks", spec := "treeAsks", unfollowed := true, recurses := true, apart := false }
def TreeAsksSaid : Prop := treeAsksRow.holds Try.pinned (OpenSpec.ofChange treeAsksSpec)

/-- ITS FALSE NEIGHBOUR: 'it returns false'. Refute it at one input. -/
def treeAsksWrong : ChangeSpec := { name := "treeAsks", fn := fun _ => fun
  | [d1, d2, d3] => { results := [.lit (.bool false)], args := [d1, d2, d3] }
  | _ => none }
def TreeAsksWrongFalsely : Prop := treeAsksRow.holds Try.pinned (OpenSpec.ofChange treeAsksWrong)

/-- 'distributarylaw08.TreeHolds': WHATEVER THE INPUT: true; the input reads as it did. -/
def treeHoldsSpec : ChangeSpec := { name := "treeHolds", fn := fun _ => fun
  | [d1, d2] => { results := [.lit (.bool true)], args := [d1, d2] }
  | _ => none }
def treeHoldsRow : OpenClaim := { program := "ytjlnbpomncglcaa", sum := "529cb65cc259b5a67b013f84f3d25eff67acbd7d757595231528f69418c5f30e", func := "distributary/distributarylaw08.TreeHolds", spec := "treeHolds", unfollowed := true, recurses := true, apart := false }
def TreeHoldsSaid : Prop := treeHoldsRow.holds Try.pinned (OpenSpec.ofChange treeHoldsSpec)

/-- ITS FALSE NEIGHBOUR: 'it returns false'. Refute it at one input. -/
def treeHoldsWrong : ChangeSpec := { name := "treeHolds", fn := fun _ => fun
  | [d1, d2] => { results := [.lit (.bool false)], args := [d1, d2] }
  | _ => none }
def TreeHoldsWrongFalsely : Prop := treeHoldsRow.holds Try.pinned (OpenSpec.ofChange treeHoldsWrong)

/-- 'distributarylaw08.TreeWell': WHATEVER THE INPUT: true; the input reads as it did. -/
def treeWellSpec : ChangeSpec := { name := "treeWell", fn := fun _ => fun
  | [d] => { results := [.lit (.bool true)], args := [d] }
  | _ => none }
def treeWellRow : OpenClaim := { program := "ytjlnbpomncglcaa", sum := "529cb65cc259b5a67b013f84f3d25eff67acbd7d757595231528f69418c5f30e", func := "distributary/distributarylaw08.TreeWell", spec := "treeWell", unfollowed := true, recurses := true, apart := false }
def TreeWellSaid : Prop := treeWellRow.holds Try.pinned (OpenSpec.ofChange treeWellSpec)

/-- ITS FALSE NEIGHBOUR: 'it returns false'. Refute it at one input. -/
def treeWellWrong : ChangeSpec := { name := "treeWell", fn := fun _ => fun
  | [d] => { results := [.lit (.bool false)], args := [d] }
  | _ => none }
def TreeWellWrongFalsely : Prop := treeWellRow.holds Try.pinned (OpenSpec.ofChange treeWellWrong)

/-- 'distributarylaw08.TreeSummed': WHATEVER THE INPUT: true; the input reads as it did. -/
def treeSummedSpec : ChangeSpec := { name := "treeSummed", fn := fun _ => fun
  | [d1, d2, d3] => { results := [.lit (.bool true)], args := [d1, d2, d3] }
  | _ => none }
def treeSummedRow : OpenClaim := { program := "ytjlnbpomncglcaa", sum := "529cb65cc259b5a67b013f84f3d25eff67acbd7d757595231528f69418c5f30e", func := "distributary/distributarylaw08.TreeSummed", spec := "treeSummed", unfollowed := true, recurses := true, apart := false }
def TreeSummedSaid : Prop := treeSummedRow.holds Try.pinned (OpenSpec.ofChange treeSummedSpec)

/-- ITS FALSE NEIGHBOUR: 'it returns false'. Refute it at one input. -/
def treeSummedWrong : ChangeSpec := { name := "treeSummed", fn := fun _ => fun
  | [d1, d2, d3] => { results := [.lit (.bool false)], args := [d1, d2, d3] }
  | _ => none }
def TreeSummedWrongFalsely : Prop := treeSummedRow.holds Try.pinned (OpenSpec.ofChange treeSummedWrong)

/-- 'distributarylaw08.TreeOrder': WHATEVER THE INPUT: true; the input reads as it did. -/
def treeOrderSpec : ChangeSpec := { name := "treeOrder", fn := fun _ => fun
  | [d1, d2] => { results := [.lit (.bool true)], args := [d1, d2] }
  | _ => none }
def treeOrderRow : OpenClaim := { program := "ytjlnbpomncglcaa", sum := "529cb65cc259b5a67b013f84f3d25eff67acbd7d757595231528f69418c5f30e", func := "distributary/distributarylaw08.TreeOrder", spec := "treeOrder", unfollowed := true, recurses := true, apart := false }
def TreeOrderSaid : Prop := treeOrderRow.holds Try.pinned (OpenSpec.ofChange treeOrderSpec)

/-- ITS FALSE NEIGHBOUR: 'it returns false'. Refute it at one input. -/
def treeOrderWrong : ChangeSpec := { name := "treeOrder", fn := fun _ => fun
  | [d1, d2] => { results := [.lit (.bool false)], args := [d1, d2] }
  | _ => none }
def TreeOrderWrongFalsely : Prop := treeOrderRow.holds Try.pinned (OpenSpec.ofChange treeOrderWrong)

/-- 'distributarylaw08.TreeSame': WHATEVER THE INPUT: true; the input reads as it did. -/
def treeSameSpec : ChangeSpec := { name := "treeSame", fn := fun _ => fun
  | [d1, d2, d3] => { results := [.lit (.bool true)], args := [d1, d2, d3] }
  | _ => none }
def treeSameRow : OpenClaim := { program := "ytjlnbpomncglcaa", sum := "529cb65cc259b5a67b013f84f3d25eff67acbd7d757595231528f69418c5f30e", func := "distributary/distributarylaw08.TreeSame", spec := "treeSame", unfollowed := true, recurses := true, apart := false }
def TreeSameSaid : Prop := treeSameRow.holds Try.pinned (OpenSpec.ofChange treeSameSpec)

/-- ITS FALSE NEIGHBOUR: 'it returns false'. Refute it at one input. -/
def treeSameWrong : ChangeSpec := { name := "treeSame", fn := fun _ => fun
  | [d1, d2, d3] => { results := [.lit (.bool false)], args := [d1, d2, d3] }
  | _ => none }
def TreeSameWrongFalsely : Prop := treeSameRow.holds Try.pinned (OpenSpec.ofChange treeSameWrong)

/-- 'distributarylaw08.TreeNone': WHATEVER THE INPUT: true; the input reads as it did. -/
def treeNoneSpec : ChangeSpec := { name := "treeNone", fn := fun _ => fun
  | [d] => { results := [.lit (.bool true)], args := [d] }
  | _ => none }
def treeNoneRow : OpenClaim := { program := "ytjlnbpomncglcaa", sum := "529cb65cc259b5a67b013f84f3d25eff67acbd7d757595231528f69418c5f30e", func := "distributary/distributarylaw08.TreeNone", spec := "treeNone", unfollowed := true, recurses := true, apart := false }
def TreeNoneSaid : Prop := treeNoneRow.holds Try.pinned (OpenSpec.ofChange treeNoneSpec)

/-- ITS FALSE NEIGHBOUR: 'it returns false'. Refute it at one input. -/
def treeNoneWrong : ChangeSpec := { name := "treeNone", fn := fun _ => fun
  | [d] => { results := [.lit (.bool false)], args := [d] }
  | _ => none }
def TreeNoneWrongFalsely : Prop := treeNoneRow.holds Try.pinned (OpenSpec.ofChange treeNoneWrong)

/-- 'distributarylaw09.AugLeast': WHATEVER THE INPUT: true; the input reads as it did. -/
def augLeastSpec : ChangeSpec := { name := "augLeast", fn := fun _ => fun
  | [d1, d2, d3] => { results := [.lit (.bool true)], args := [d1, d2, d3] }
  | _ => none }
def augLeastRow : OpenClaim := { program := "ytjlnbpomncglcaa", sum := "529cb65cc259b5a67b013f84f3d25eff67acbd7d757595231528f69418c5f30e", func := "distributary/distributarylaw09.AugLeast", spec := "augLeast", unfollowed := true, recurses := true, apart := false }
def AugLeastSaid : Prop := augLeastRow.holds Try.pinned (OpenSpec.ofChange augLeastSpec)

/-- ITS FALSE NEIGHBOUR: 'it returns false'. Refute it at one input. -/
def augLeastWrong : ChangeSpec := { name := "augLeast", fn := fun _ => fun
  | [d1, d2, d3] => { results := [.lit (.bool false)], args := [d1, d2, d3] }
  | _ => none }
def AugLeastWrongFalsely : Prop := augLeastRow.holds Try.pinned (OpenSpec.ofChange augLeastWrong)

/-- 'distributarylaw09.AugBoth': WHATEVER THE INPUT: true; the input reads as it did. -/
def augBothSpec : ChangeSpec := { name := "augBoth", fn := fun _ => fun
  | [d] => { results := [.lit (.bool true)], args := [d] }
  | _ => none }
def augBothRow : OpenClaim := { program := "ytjlnbpomncglcaa", sum := "529cb65cc259b5a67b013f84f3d25eff67acbd7d757595231528f69418c5f30e", func := "distributary/distributarylaw09.AugBoth", spec := "augBoth", unfollowed := true, recurses := true, apart := false }
def AugBothSaid : Prop := augBothRow.holds Try.pinned (OpenSpec.ofChange augBothSpec)

/-- ITS FALSE NEIGHBOUR: 'it returns false'. Refute it at one input. -/
def augBothWrong : ChangeSpec := { name := "augBoth", fn := fun _ => fun
  | [d] => { results := [.lit (.bool false)], args := [d] }
  | _ => none }
def AugBothWrongFalsely : Prop := augBothRow.holds Try.pinned (OpenSpec.ofChange augBothWrong)

/-- 'distributarylaw09.AugOrder': WHATEVER THE INPUT: true; the input reads as it did. -/
def augOrderSpec : ChangeSpec := { name := "augOrder", fn := fun _ => fun
  | [d] => { results := [.lit (.bool true)], args := [d] }
  | _ => none }
def augOrderRow : OpenClaim := { program := "ytjlnbpomncglcaa", sum := "529cb65cc259b5a67b013f84f3d25eff67acbd7d757595231528f69418c5f30e", func := "distributary/distributarylaw09.AugOrder", spec := "augOrder", unfollowed := true, recurses := true, apart := false }
def AugOrderSaid : Prop := augOrderRow.holds Try.pinned (OpenSpec.ofChange augOrderSpec)

/-- ITS FALSE NEIGHBOUR: 'it returns false'. Refute it at one input. -/
def augOrderWrong : ChangeSpec := { name := "augOrder", fn := fun _ => fun
  | [d] => { results := [.lit (.bool false)], args := [d] }
  | _ => none }
def AugOrderWrongFalsely : Prop := augOrderRow.holds Try.pinned (OpenSpec.ofChange augOrderWrong)

/-- 'distributarylaw09.AugAnew': WHATEVER THE INPUT: true; the input reads as it did. -/
def augAnewSpec : ChangeSpec := { name := "augAnew", fn := fun _ => fun
  | [d1, d2, d3, d4] => { results := [.lit (.bool true)], args := [d1, d2, d3, d4] }
  | _ => none }
def augAnewRow : OpenClaim := { program := "ytjlnbpomncglcaa", sum := "529cb65cc259b5a67b013f84f3d25eff67acbd7d757595231528f69418c5f30e", func := "distributary/distributarylaw09.AugAnew", spec := "augAnew", inPlace := ["maps.clone"], unfollowed := true, recurses := true, apart := false }
def AugAnewSaid : Prop := augAnewRow.holds Try.pinned (OpenSpec.ofChange augAnewSpec)

/-- ITS FALSE NEIGHBOUR: 'it returns false'. Refute it at one input. -/
def augAnewWrong : ChangeSpec := { name := "augAnew", fn := fun _ => fun
  | [d1, d2, d3, d4] => { results := [.lit (.bool false)], args := [d1, d2, d3, d4] }
  | _ => none }
def AugAnewWrongFalsely : Prop := augAnewRow.holds Try.pinned (OpenSpec.ofChange augAnewWrong)

/-- 'distributarylaw09.AugTells': WHATEVER THE INPUT: true; the input reads as it did. -/
def augTellsSpec : ChangeSpec := { name := "augTells", fn := fun _ => fun
  | [d1, d2] => { results := [.lit (.bool true)], args := [d1, d2] }
  | _ => none }
def augTellsRow : OpenClaim := { program := "ytjlnbpomncglcaa", sum := "529cb65cc259b5a67b013f84f3d25eff67acbd7d757595231528f69418c5f30e", func := "distributary/distributarylaw09.AugTells", spec := "augTells", inPlace := ["maps.clone"], unfollowed := true, recurses := true, apart := false }
def AugTellsSaid : Prop := augTellsRow.holds Try.pinned (OpenSpec.ofChange augTellsSpec)

/-- ITS FALSE NEIGHBOUR: 'it returns false'. Refute it at one input. -/
def augTellsWrong : ChangeSpec := { name := "augTells", fn := fun _ => fun
  | [d1, d2] => { results := [.lit (.bool false)], args := [d1, d2] }
  | _ => none }
def AugTellsWrongFalsely : Prop := augTellsRow.holds Try.pinned (OpenSpec.ofChange augTellsWrong)

/-- 'distributarylaw09.AugNone': WHATEVER THE INPUT: true; the input reads as it did. -/
def augNoneSpec : ChangeSpec := { name := "augNone", fn := fun _ => fun
  | [d] => { results := [.lit (.bool true)], args := [d] }
  | _ => none }
def augNoneRow : OpenClaim := { program := "ytjlnbpomncglcaa", sum := "529cb65cc259b5a67b013f84f3d25eff67acbd7d757595231528f69418c5f30e", func := "distributary/distributarylaw09.AugNone", spec := "augNone", inPlace := ["maps.clone"], unfollowed := true, recurses := true, apart := false }
def AugNoneSaid : Prop := augNoneRow.holds Try.pinned (OpenSpec.ofChange augNoneSpec)

/-- ITS FALSE NEIGHBOUR: 'it returns false'. Refute it at one input. -/
def augNoneWrong : ChangeSpec := { name := "augNone", fn := fun _ => fun
  | [d] => { results := [.lit (.bool false)], args := [d] }
  | _ => none }
def AugNoneWrongFalsely : Prop := augNoneRow.holds Try.pinned (OpenSpec.ofChange augNoneWrong)

/- THE SECOND FORM. 'bulk': how many values and letters a reading holds, each counted each time it is reached (what is shared counts as often as it is met; a slice's spare places count too). A statement '..UptoSaid' is the law's where the arguments, and the package variables that the reading takes, are together of bulk at most 1048576: NARROWER than '..Said'. Prove '..Said' where nothing that the law and all that it calls make is longer than what came in: it says more and counts as full. Else prove '..UptoSaid'. A law counts once. -/
mutual
def uptoBulk {H : Type} : DataW H → Nat
  | .lit (.string bytes) => bytes.length + 1
  | .lit _ => 1
  | .nil => 1
  | .ptr d => uptoBulk d + 1
  | .slice elems spare => uptoBulkAll elems + uptoBulkAll spare + 1
  | .agg parts => uptoBulkAll parts + 1
  | .iface _ d => uptoBulk d + 1
  | .map entries => uptoBulkEntries entries + 1
  | .held _ => 1
def uptoBulkAll {H : Type} : List (DataW H) → Nat
  | [] => 0
  | d :: r => uptoBulk d + uptoBulkAll r
def uptoBulkEntries {H : Type} : List (Lit × DataW H) → Nat
  | [] => 0
  | x :: r => uptoBulkEntry x + uptoBulkEntries r
def uptoBulkEntry {H : Type} : Lit × DataW H → Nat
  | (.string bytes, d) => bytes.length + uptoBulk d + 1
  | (_, d) => uptoBulk d + 1
 end
def uptoSmall : (H : Type) → List (DataW H) → Bool := fun _ ds => decide (uptoBulkAll ds ≤ 1048576)
def OpenSpec.upto (s : _root_.Go.ChangeSpec) : _root_.Go.OpenSpec := { _root_.Go.OpenSpec.ofChange s with cond := some uptoSmall }

/-- 'distributarylaw08.TreeAsks', WHERE WHAT IT READS IS OF BULK AT MOST 1048576: true; the input reads as it did. -/
def treeAsksUptoRow : OpenClaim := { program := "ytjlnbpomncglcaa", sum := "529cb65cc259b5a67b013f84f3d25eff67acbd7d757595231528f69418c5f30e", func := "distributary/distributarylaw08.TreeAsks", spec := "treeAsks", unfollowed := true, recurses := true, apart := false, narrowed := true }
def TreeAsksUptoSaid : Prop := treeAsksUptoRow.holds Try.pinned (OpenSpec.upto treeAsksSpec)

/-- 'distributarylaw08.TreeHolds', WHERE WHAT IT READS IS OF BULK AT MOST 1048576: true; the input reads as it did. -/
def treeHoldsUptoRow : OpenClaim := { program := "ytjlnbpomncglcaa", sum := "529cb65cc259b5a67b013f84f3d25eff67acbd7d757595231528f69418c5f30e", func := "distributary/distributarylaw08.TreeHolds", spec := "treeHolds", unfollowed := true, recurses := true, apart := false, narrowed := true }
def TreeHoldsUptoSaid : Prop := treeHoldsUptoRow.holds Try.pinned (OpenSpec.upto treeHoldsSpec)

/-- 'distributarylaw08.TreeWell', WHERE WHAT IT READS IS OF BULK AT MOST 1048576: true; the input reads as it did. -/
def treeWellUptoRow : OpenClaim := { program := "ytjlnbpomncglcaa", sum := "529cb65cc259b5a67b013f84f3d25eff67acbd7d757595231528f69418c5f30e", func := "distributary/distributarylaw08.TreeWell", spec := "treeWell", unfollowed := true, recurses := true, apart := false, narrowed := true }
def TreeWellUptoSaid : Prop := treeWellUptoRow.holds Try.pinned (OpenSpec.upto treeWellSpec)

/-- 'distributarylaw08.TreeSummed', WHERE WHAT IT READS IS OF BULK AT MOST 1048576: true; the input reads as it did. -/
def treeSummedUptoRow : OpenClaim := { program := "ytjlnbpomncglcaa", sum := "529cb65cc259b5a67b013f84f3d25eff67acbd7d757595231528f69418c5f30e", func := "distributary/distributarylaw08.TreeSummed", spec := "treeSummed", unfollowed := true, recurses := true, apart := false, narrowed := true }
def TreeSummedUptoSaid : Prop := treeSummedUptoRow.holds Try.pinned (OpenSpec.upto treeSummedSpec)

/-- 'distributarylaw08.TreeOrder', WHERE WHAT IT READS IS OF BULK AT MOST 1048576: true; the input reads as it did. -/
def treeOrderUptoRow : OpenClaim := { program := "ytjlnbpomncglcaa", sum := "529cb65cc259b5a67b013f84f3d25eff67acbd7d757595231528f69418c5f30e", func := "distributary/distributarylaw08.TreeOrder", spec := "treeOrder", unfollowed := true, recurses := true, apart := false, narrowed := true }
def TreeOrderUptoSaid : Prop := treeOrderUptoRow.holds Try.pinned (OpenSpec.upto treeOrderSpec)

/-- 'distributarylaw08.TreeSame', WHERE WHAT IT READS IS OF BULK AT MOST 1048576: true; the input reads as it did. -/
def treeSameUptoRow : OpenClaim := { program := "ytjlnbpomncglcaa", sum := "529cb65cc259b5a67b013f84f3d25eff67acbd7d757595231528f69418c5f30e", func := "distributary/distributarylaw08.TreeSame", spec := "treeSame", unfollowed := true, recurses := true, apart := false, narrowed := true }
def TreeSameUptoSaid : Prop := treeSameUptoRow.holds Try.pinned (OpenSpec.upto treeSameSpec)

/-- 'distributarylaw08.TreeNone', WHERE WHAT IT READS IS OF BULK AT MOST 1048576: true; the input reads as it did. -/
def treeNoneUptoRow : OpenClaim := { program := "ytjlnbpomncglcaa", sum := "529cb65cc259b5a67b013f84f3d25eff67acbd7d757595231528f69418c5f30e", func := "distributary/distributarylaw08.TreeNone", spec := "treeNone", unfollowed := true, recurses := true, apart := false, narrowed := true }
def TreeNoneUptoSaid : Prop := treeNoneUptoRow.holds Try.pinned (OpenSpec.upto treeNoneSpec)

/-- 'distributarylaw09.AugLeast', WHERE WHAT IT READS IS OF BULK AT MOST 1048576: true; the input reads as it did. -/
def augLeastUptoRow : OpenClaim := { program := "ytjlnbpomncglcaa", sum := "529cb65cc259b5a67b013f84f3d25eff67acbd7d757595231528f69418c5f30e", func := "distributary/distributarylaw09.AugLeast", spec := "augLeast", unfollowed := true, recurses := true, apart := false, narrowed := true }
def AugLeastUptoSaid : Prop := augLeastUptoRow.holds Try.pinned (OpenSpec.upto augLeastSpec)

/-- 'distributarylaw09.AugBoth', WHERE WHAT IT READS IS OF BULK AT MOST 1048576: true; the input reads as it did. -/
def augBothUptoRow : OpenClaim := { program := "ytjlnbpomncglcaa", sum := "529cb65cc259b5a67b013f84f3d25eff67acbd7d757595231528f69418c5f30e", func := "distributary/distributarylaw09.AugBoth", spec := "augBoth", unfollowed := true, recurses := true, apart := false, narrowed := true }
def AugBothUptoSaid : Prop := augBothUptoRow.holds Try.pinned (OpenSpec.upto augBothSpec)

/-- 'distributarylaw09.AugOrder', WHERE WHAT IT READS IS OF BULK AT MOST 1048576: true; the input reads as it did. -/
def augOrderUptoRow : OpenClaim := { program := "ytjlnbpomncglcaa", sum := "529cb65cc259b5a67b013f84f3d25eff67acbd7d757595231528f69418c5f30e", func := "distributary/distributarylaw09.AugOrder", spec := "augOrder", unfollowed := true, recurses := true, apart := false, narrowed := true }
def AugOrderUptoSaid : Prop := augOrderUptoRow.holds Try.pinned (OpenSpec.upto augOrderSpec)

/-- 'distributarylaw09.AugAnew', WHERE WHAT IT READS IS OF BULK AT MOST 1048576: true; the input reads as it did. -/
def augAnewUptoRow : OpenClaim := { program := "ytjlnbpomncglcaa", sum := "529cb65cc259b5a67b013f84f3d25eff67acbd7d757595231528f69418c5f30e", func := "distributary/distributarylaw09.AugAnew", spec := "augAnew", inPlace := ["maps.clone"], unfollowed := true, recurses := true, apart := false, narrowed := true }
def AugAnewUptoSaid : Prop := augAnewUptoRow.holds Try.pinned (OpenSpec.upto augAnewSpec)

/-- 'distributarylaw09.AugTells', WHERE WHAT IT READS IS OF BULK AT MOST 1048576: true; the input reads as it did. -/
def augTellsUptoRow : OpenClaim := { program := "ytjlnbpomncglcaa", sum := "529cb65cc259b5a67b013f84f3d25eff67acbd7d757595231528f69418c5f30e", func := "distributary/distributarylaw09.AugTells", spec := "augTells", inPlace := ["maps.clone"], unfollowed := true, recurses := true, apart := false, narrowed := true }
def AugTellsUptoSaid : Prop := augTellsUptoRow.holds Try.pinned (OpenSpec.upto augTellsSpec)

/-- 'distributarylaw09.AugNone', WHERE WHAT IT READS IS OF BULK AT MOST 1048576: true; the input reads as it did. -/
def augNoneUptoRow : OpenClaim := { program := "ytjlnbpomncglcaa", sum := "529cb65cc259b5a67b013f84f3d25eff67acbd7d757595231528f69418c5f30e", func := "distributary/distributarylaw09.AugNone", spec := "augNone", inPlace := ["maps.clone"], unfollowed := true, recurses := true, apart := false, narrowed := true }
def AugNoneUptoSaid : Prop := augNoneUptoRow.holds Try.pinned (OpenSpec.upto augNoneSpec)

end Rows
end Go.Proofs.Ytjlnbpomncglcaa
