/-
  DERIVED. GIVEN WITH THE SEED: THE CARDS: each row of YtjhffbhjiflfeaaDoorRows.lean that lists a variable, with what it lists TIED to the program's text (the seventh form; the later family's looks); each row that meets fmt, with fmt's text TOLD by the authors' own Lean function (tested against real Go, not proved from fmt's source: count such statements apart). THE CARD IS WHAT COUNTS. Prove the row's statement (the work); the ties are given (YtjhffbhjiflfeaaDoorTie.lean); close each card by the builder's one call (the guide's Derived/Test/ToyasCard.lean, 'card_holds'). Laid BY PROGRAM, IN A SANDBOX (cutbox-door.mjs). By AI agents, Wed Nov 11 2026. No macro, syntax, notation, axiom, sorry.
-/
import Derived.Test.YtjhffbhjiflfeaaDoorRows
import GoSem.ClaimSeven
namespace Go.Proofs.YtjhffbhjiflfeaaDoor
namespace Rows

/-- THE TIED CARD OF 'distributarylaw15.CommandOwn'. -/
def commandOwnCard : Claim7 := { stood := { row := commandOwnRow, standIns := [], harness := (true, "da16f88998dd8bb1e0ef5ea89a7239a48b529f79ad6cdc3f7f36e571084bbeca"), looks := true }, kinds := [], alts := [], laidByText := true, laidKinds := [.widerDeep], laidTests := true, laidLooks := .later }
def CommandOwnCardSaid : Prop := Claim7.holds Tryd.pinned (.plain (OpenSpec.ofChange commandOwnSpec)) commandOwnCard

/-- THE SECOND FORM's CARD OF 'distributarylaw15.CommandOwn'. -/
def commandOwnUptoCard : Claim7 := { stood := { row := commandOwnUptoRow, standIns := [], harness := (true, "da16f88998dd8bb1e0ef5ea89a7239a48b529f79ad6cdc3f7f36e571084bbeca"), looks := true }, kinds := [], alts := [], laidByText := true, laidKinds := [.widerDeep], laidTests := true, laidLooks := .later }
def CommandOwnUptoCardSaid : Prop := Claim7.holds Tryd.pinned (.plain (OpenSpec.upto commandOwnSpec)) commandOwnUptoCard
end Rows
end Go.Proofs.YtjhffbhjiflfeaaDoor
