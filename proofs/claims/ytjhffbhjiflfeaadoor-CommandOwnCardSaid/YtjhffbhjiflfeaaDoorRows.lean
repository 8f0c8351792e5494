/-
  NARROWER THAN 'FOR EVERY INPUT', by the rows' own cells (each row's printed sentence says how): CommandOwn: laid.
  DERIVED. THE GIVEN ROWS OF THIS SEAT. 1 by the template 'for every input the law returns true; each argument reads behind the call as it read before'; 0 by the template 'total and deterministic' (their statements: YtjhffbhjiflfeaaDoorTotals.lean).
  GIVEN WITH THE SEED: the statements are not yours to turn. If you find one false, say at which input.
  Laid BY PROGRAM, IN A SANDBOX (cutbox-rows.mjs): the forced cells as the released guide's own fill.sh prints them over the translation eb62be866c4341c9… (all of the seat's roots in one cut). By AI agents, Wed Nov 11 2026. No macro, syntax, notation, axiom, sorry.
-/
import Derived.Test.YtjhffbhjiflfeaaDoorChecked
import GoSem.Claim
import GoSem.ClaimJoined
import GoSem.ClaimMapViews
import Derived.JoinedTies
import Derived.KernelRfl
namespace Go.Proofs.YtjhffbhjiflfeaaDoor
/- THE CELL 'sum', in the pinned program and in every row, IS THE sha256 OF THE DUMP (.gsa) THAT YtjhffbhjiflfeaaDoorProg.lean LOADS. Nothing in Lean hashes anything: it is a label: what it is worth is what the hold of that sum in a sandbox is worth. -/
noncomputable def Tryd.pinned : Pinned := { name := "ytjhffbhjiflfeaadoor", sum := "eb62be866c4341c9c2a295606c1d4dc05ba2859975c0b671b12a9d9b38720262", checked := Tryd.checked }
namespace Rows
def none {H : Type} : Left H := { results := [], args := [] }

/- WHAT THE LISTED PACKAGE-LEVEL VARIABLES READ AS WHEN THE CALL BEGINS. Each datum BY PROGRAM (the guide's laid-datum.mjs) off the statement by which the dump's own 'gosem.cut.vars' lays the variable. In a bare row this is a premise. The card (YtjhffbhjiflfeaaDoorCards.lean) ties it to the program's text. -/
def laid_distributary_command_names {H : Type} : DataW H := .agg [.lit (.string []), .lit (.string [99, 111, 110, 102, 105, 103]), .lit (.string [97, 100, 100]), .lit (.string [99, 104, 97, 110, 103, 101]), .lit (.string [100, 101, 108, 101, 116, 101]), .lit (.string [97, 114, 114, 105, 118, 101]), .lit (.string [97, 100, 118, 97, 110, 99, 101]), .lit (.string [97, 115, 107])]

/-- 'distributarylaw15.CommandOwn': WHATEVER THE INPUT: true; the input reads as it did. -/
def commandOwnSpec : ChangeSpec := { name := "commandOwn", fn := fun _ => fun
  | [d] => { results := [.lit (.bool true)], args := [d] }
  | _ => none }
def commandOwnRow : OpenClaim := { program := "ytjhffbhjiflfeaadoor", sum := "eb62be866c4341c9c2a295606c1d4dc05ba2859975c0b671b12a9d9b38720262", func := "distributary/distributarylaw15.CommandOwn", spec := "commandOwn", named := ["distributary/command.names"], apart := false, laid := [("distributary/command.names", laid_distributary_command_names)] }
def CommandOwnSaid : Prop := commandOwnRow.holds Tryd.pinned (OpenSpec.ofChange commandOwnSpec)

/-- ITS FALSE NEIGHBOUR: 'it returns false'. Refute it at one input. -/
def commandOwnWrong : ChangeSpec := { name := "commandOwn", fn := fun _ => fun
  | [d] => { results := [.lit (.bool false)], args := [d] }
  | _ => none }
def CommandOwnWrongFalsely : Prop := commandOwnRow.holds Tryd.pinned (OpenSpec.ofChange commandOwnWrong)

/- THE SECOND FORM. 'bulk': how many values and letters a reading holds, each counted each time it is reached (what is shared counts as often as it is met; a slice's spare places count too). A statement '..UptoSaid' is the law's where the arguments, and the package variables that the reading takes, are together of bulk at most 1048576: NARROWER than '..Said'. Prove '..Said' where nothing that the law and all that it calls make is longer than what came in: it says more and counts as full. Else prove '..UptoSaid'. A law counts once. -/
mutual
def uptoBulk {H : Type} : DataW H → Nat
  | .lit (.string bytes) => bytes.length + 1
  | .lit _ => 1
  | .nil => 1
  | .ptr d => uptoBulk d + 1
  | .slice elems spare => uptoBulkAll elems + uptoBulkAll spare + 1
  | .agg parts => uptoBulkAll parts + 1
  | .iface _ d => uptoBulk d + 1
  | .map entries => uptoBulkEntries entries + 1
  | .held _ => 1
def uptoBulkAll {H : Type} : List (DataW H) → Nat
  | [] => 0
  | d :: r => uptoBulk d + uptoBulkAll r
def uptoBulkEntries {H : Type} : List (Lit × DataW H) → Nat
  | [] => 0
  | x :: r => uptoBulkEntry x + uptoBulkEntries r
def uptoBulkEntry {H : Type} : Lit × DataW H → Nat
  | (.string bytes, d) => bytes.length + uptoBulk d + 1
  | (_, d) => uptoBulk d + 1
 end
def uptoSmall : (H : Type) → List (DataW H) → Bool := fun _ ds => decide (uptoBulkAll ds ≤ 1048576)
def OpenSpec.upto (s : _root_.Go.ChangeSpec) : _root_.Go.OpenSpec := { _root_.Go.OpenSpec.ofChange s with cond := some uptoSmall }

/-- 'distributarylaw15.CommandOwn', WHERE WHAT IT READS IS OF BULK AT MOST 1048576: true; the input reads as it did. -/
def commandOwnUptoRow : OpenClaim := { program := "ytjhffbhjiflfeaadoor", sum := "eb62be866c4341c9c2a295606c1d4dc05ba2859975c0b671b12a9d9b38720262", func := "distributary/distributarylaw15.CommandOwn", spec := "commandOwn", named := ["distributary/command.names"], apart := false, laid := [("distributary/command.names", laid_distributary_command_names)], narrowed := true }
def CommandOwnUptoSaid : Prop := commandOwnUptoRow.holds Tryd.pinned (OpenSpec.upto commandOwnSpec)

end Rows
end Go.Proofs.YtjhffbhjiflfeaaDoor
