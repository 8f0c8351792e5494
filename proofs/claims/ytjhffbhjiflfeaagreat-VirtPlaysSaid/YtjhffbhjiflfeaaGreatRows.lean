/-
  No cell of these rows narrows 'for every input' (looked for: loops, veiled, ifaces, maps, wideKeys, modest, calm, conditions, laid).
  DERIVED. THE GIVEN ROWS OF THIS SEAT. 4 by the template 'for every input the law returns true; each argument reads behind the call as it read before'; 0 by the template 'total and deterministic' (their statements: YtjhffbhjiflfeaaGreatTotals.lean).
  GIVEN WITH THE SEED: the statements are not yours to turn. If you find one false, say at which input.
  Laid BY PROGRAM, IN A SANDBOX (cutbox-rows.mjs): the forced cells as the released guide's own fill.sh prints them over the translation 21a5e38e7b413e5b… (all of the seat's roots in one cut). By AI agents, Wed Nov 11 2026. No macro, syntax, notation, axiom, sorry.
-/
import Derived.Test.YtjhffbhjiflfeaaGreatChecked
import GoSem.Claim
import GoSem.ClaimJoined
import GoSem.ClaimMapViews
import Derived.JoinedTies
import Derived.KernelRfl
namespace Go.Proofs.YtjhffbhjiflfeaaGreat
/- THE CELL 'sum', in the pinned program and in every row, IS THE sha256 OF THE DUMP (.gsa) THAT YtjhffbhjiflfeaaGreatProg.lean LOADS. Nothing in Lean hashes anything: it is a label: what it is worth is what the hold of that sum in a sandbox is worth. -/
noncomputable def Tryz.pinned : Pinned := { name := "ytjhffbhjiflfeaagreat", sum := "21a5e38e7b413e5bccf5960eaaab77e74bc5a4abf2fe7a1952f58b685b13d39e", checked := Tryz.checked }
namespace Rows
def none {H : Type} : Left H := { results := [], args := [] }

/-- 'distributarylaw20.VirtPlays': WHATEVER THE INPUT: true; the input reads as it did. -/
def virtPlaysSpec : ChangeSpec := { name := "virtPlays", fn := fun _ => fun
  | [d1, d2] => { results := [.lit (.bool true)], args := [d1, d2] }
  | _ => none }
def virtPlaysRow : OpenClaim := { program := "ytjhffbhjiflfeaagreat", sum := "21a5e38e7b413e5bccf5960eaaab77e74bc5a4abf2fe7a1952f58b685b13d39e", func := "distributary/distributarylaw20.VirtPlays", spec := "virtPlays", unfollowed := true, recurses := true, apart := false }
def VirtPlaysSaid : Prop := virtPlaysRow.holds Tryz.pinned (OpenSpec.ofChange virtPlaysSpec)

/-- ITS FALSE NEIGHBOUR: 'it returns false'. Refute it at one input. -/
def virtPlaysWrong : ChangeSpec := { name := "virtPlays", fn := fun _ => fun
  | [d1, d2] => { results := [.lit (.bool false)], args := [d1, d2] }
  | _ => none }
def VirtPlaysWrongFalsely : Prop := virtPlaysRow.holds Tryz.pinned (OpenSpec.ofChange virtPlaysWrong)

/-- 'distributarylaw20.VirtNil': WHATEVER THE INPUT: true; the input reads as it did. -/
def virtNilSpec : ChangeSpec := { name := "virtNil", fn := fun _ => fun
  | [d1, d2, d3] => { results := [.lit (.bool true)], args := [d1, d2, d3] }
  | _ => none }
def virtNilRow : OpenClaim := { program := "ytjhffbhjiflfeaagreat", sum := "21a5e38e7b413e5bccf5960eaaab77e74bc5a4abf2fe7a1952f58b685b13d39e", func := "distributary/distributarylaw20.VirtNil", spec := "virtNil", unfollowed := true, recurses := true, apart := false }
def VirtNilSaid : Prop := virtNilRow.holds Tryz.pinned (OpenSpec.ofChange virtNilSpec)

/-- ITS FALSE NEIGHBOUR: 'it returns false'. Refute it at one input. -/
def virtNilWrong : ChangeSpec := { name := "virtNil", fn := fun _ => fun
  | [d1, d2, d3] => { results := [.lit (.bool false)], args := [d1, d2, d3] }
  | _ => none }
def VirtNilWrongFalsely : Prop := virtNilRow.holds Tryz.pinned (OpenSpec.ofChange virtNilWrong)

/-- 'distributarylaw20.VirtFair': WHATEVER THE INPUT: true; the input reads as it did. -/
def virtFairSpec : ChangeSpec := { name := "virtFair", fn := fun _ => fun
  | [d1, d2, d3, d4] => { results := [.lit (.bool true)], args := [d1, d2, d3, d4] }
  | _ => none }
def virtFairRow : OpenClaim := { program := "ytjhffbhjiflfeaagreat", sum := "21a5e38e7b413e5bccf5960eaaab77e74bc5a4abf2fe7a1952f58b685b13d39e", func := "distributary/distributarylaw20.VirtFair", spec := "virtFair", unfollowed := true, recurses := true, apart := false }
def VirtFairSaid : Prop := virtFairRow.holds Tryz.pinned (OpenSpec.ofChange virtFairSpec)

/-- ITS FALSE NEIGHBOUR: 'it returns false'. Refute it at one input. -/
def virtFairWrong : ChangeSpec := { name := "virtFair", fn := fun _ => fun
  | [d1, d2, d3, d4] => { results := [.lit (.bool false)], args := [d1, d2, d3, d4] }
  | _ => none }
def VirtFairWrongFalsely : Prop := virtFairRow.holds Tryz.pinned (OpenSpec.ofChange virtFairWrong)

/-- 'distributarylaw20.VirtClose': WHATEVER THE INPUT: true; the input reads as it did. -/
def virtCloseSpec : ChangeSpec := { name := "virtClose", fn := fun _ => fun
  | [d] => { results := [.lit (.bool true)], args := [d] }
  | _ => none }
def virtCloseRow : OpenClaim := { program := "ytjhffbhjiflfeaagreat", sum := "21a5e38e7b413e5bccf5960eaaab77e74bc5a4abf2fe7a1952f58b685b13d39e", func := "distributary/distributarylaw20.VirtClose", spec := "virtClose", unfollowed := true, recurses := true, apart := false }
def VirtCloseSaid : Prop := virtCloseRow.holds Tryz.pinned (OpenSpec.ofChange virtCloseSpec)

/-- ITS FALSE NEIGHBOUR: 'it returns false'. Refute it at one input. -/
def virtCloseWrong : ChangeSpec := { name := "virtClose", fn := fun _ => fun
  | [d] => { results := [.lit (.bool false)], args := [d] }
  | _ => none }
def VirtCloseWrongFalsely : Prop := virtCloseRow.holds Tryz.pinned (OpenSpec.ofChange virtCloseWrong)

/- THE SECOND FORM. 'bulk': how many values and letters a reading holds, each counted each time it is reached (what is shared counts as often as it is met; a slice's spare places count too). A statement '..UptoSaid' is the law's where the arguments, and the package variables that the reading takes, are together of bulk at most 1048576: NARROWER than '..Said'. Prove '..Said' where nothing that the law and all that it calls make is longer than what came in: it says more and counts as full. Else prove '..UptoSaid'. A law counts once. -/
mutual
def uptoBulk {H : Type} : DataW H → Nat
  | .lit (.string bytes) => bytes.length + 1
  | .lit _ => 1
  | .nil => 1
  | .ptr d => uptoBulk d + 1
  | .slice elems spare => uptoBulkAll elems + uptoBulkAll spare + 1
  | .agg parts => uptoBulkAll parts + 1
  | .iface _ d => uptoBulk d + 1
  | .map entries => uptoBulkEntries entries + 1
  | .held _ => 1
def uptoBulkAll {H : Type} : List (DataW H) → Nat
  | [] => 0
  | d :: r => uptoBulk d + uptoBulkAll r
def uptoBulkEntries {H : Type} : List (Lit × DataW H) → Nat
  | [] => 0
  | x :: r => uptoBulkEntry x + uptoBulkEntries r
def uptoBulkEntry {H : Type} : Lit × DataW H → Nat
  | (.string bytes, d) => bytes.length + uptoBulk d + 1
  | (_, d) => uptoBulk d + 1
 end
def uptoSmall : (H : Type) → List (DataW H) → Bool := fun _ ds => decide (uptoBulkAll ds ≤ 1048576)
def OpenSpec.upto (s : _root_.Go.ChangeSpec) : _root_.Go.OpenSpec := { _root_.Go.OpenSpec.ofChange s with cond := some uptoSmall }

/-- 'distributarylaw20.VirtPlays', WHERE WHAT IT READS IS OF BULK AT MOST 1048576: true; the input reads as it did. -/
def virtPlaysUptoRow : OpenClaim := { program := "ytjhffbhjiflfeaagreat", sum := "21a5e38e7b413e5bccf5960eaaab77e74bc5a4abf2fe7a1952f58b685b13d39e", func := "distributary/distributarylaw20.VirtPlays", spec := "virtPlays", unfollowed := true, recurses := true, apart := false, narrowed := true }
def VirtPlaysUptoSaid : Prop := virtPlaysUptoRow.holds Tryz.pinned (OpenSpec.upto virtPlaysSpec)

/-- 'distributarylaw20.VirtNil', WHERE WHAT IT READS IS OF BULK AT MOST 1048576: true; the input reads as it did. -/
def virtNilUptoRow : OpenClaim := { program := "ytjhffbhjiflfeaagreat", sum := "21a5e38e7b413e5bccf5960eaaab77e74bc5a4abf2fe7a1952f58b685b13d39e", func := "distributary/distributarylaw20.VirtNil", spec := "virtNil", unfollowed := true, recurses := true, apart := false, narrowed := true }
def VirtNilUptoSaid : Prop := virtNilUptoRow.holds Tryz.pinned (OpenSpec.upto virtNilSpec)

/-- 'distributarylaw20.VirtFair', WHERE WHAT IT READS IS OF BULK AT MOST 1048576: true; the input reads as it did. -/
def virtFairUptoRow : OpenClaim := { program := "ytjhffbhjiflfeaagreat", sum := "21a5e38e7b413e5bccf5960eaaab77e74bc5a4abf2fe7a1952f58b685b13d39e", func := "distributary/distributarylaw20.VirtFair", spec := "virtFair", unfollowed := true, recurses := true, apart := false, narrowed := true }
def VirtFairUptoSaid : Prop := virtFairUptoRow.holds Tryz.pinned (OpenSpec.upto virtFairSpec)

/-- 'distributarylaw20.VirtClose', WHERE WHAT IT READS IS OF BULK AT MOST 1048576: true; the input reads as it did. -/
def virtCloseUptoRow : OpenClaim := { program := "ytjhffbhjiflfeaagreat", sum := "21a5e38e7b413e5bccf5960eaaab77e74bc5a4abf2fe7a1952f58b685b13d39e", func := "distributary/distributarylaw20.VirtClose", spec := "virtClose", unfollowed := true, recurses := true, apart := false, narrowed := true }
def VirtCloseUptoSaid : Prop := virtCloseUptoRow.holds Tryz.pinned (OpenSpec.upto virtCloseSpec)

end Rows
end Go.Proofs.YtjhffbhjiflfeaaGreat
