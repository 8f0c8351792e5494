/-
  DERIVED. GIVEN WITH THE SEED: THE CARDS: each row of YtddehgcdflfonaaDoorRows.lean that lists a variable, with what it lists TIED to the program's text (the seventh form; the later family's looks); each row that meets fmt, with fmt's text TOLD by the authors' own Lean function (tested against real Go, not proved from fmt's source: count such statements apart). THE CARD IS WHAT COUNTS. Prove the row's statement (the work); the ties are given (YtddehgcdflfonaaDoorTie.lean); close each card by the builder's one call (the guide's Derived/Test/ToyasCard.lean, 'card_holds'). Laid BY PROGRAM, IN A SANDBOX (cutbox-door.mjs). By AI agents, Wed Nov 11 2026. No macro, syntax, notation, axiom, sorry.
-/
import Derived.Test.YtddehgcdflfonaaDoorRows
import GoSem.ClaimSeven
namespace Go.Proofs.YtddehgcdflfonaaDoor
namespace Rows

/-- THE TIED CARD OF 'distributarylaw12.TableValues'. -/
def tableValuesCard : Claim7 := { stood := { row := tableValuesRow, standIns := [], harness := (true, "ea6b2215601ab998bb6b6ab8ad8394251a6addd12085960730873644d582f086"), looks := false }, kinds := [], alts := [], laidByText := true, laidKinds := [.data], laidTests := true, laidLooks := .later }
def TableValuesCardSaid : Prop := Claim7.holds Tryd.pinned (.plain (OpenSpec.ofChange tableValuesSpec)) tableValuesCard

/-- THE TIED CARD OF 'distributarylaw12.TableIds'. -/
def tableIdsCard : Claim7 := { stood := { row := tableIdsRow, standIns := [], harness := (true, "ea6b2215601ab998bb6b6ab8ad8394251a6addd12085960730873644d582f086"), looks := false }, kinds := [], alts := [], laidByText := true, laidKinds := [.data], laidTests := true, laidLooks := .later }
def TableIdsCardSaid : Prop := Claim7.holds Tryd.pinned (.plain (OpenSpec.ofChange tableIdsSpec)) tableIdsCard

/-- THE TIED CARD OF 'distributarylaw12.TableCopies'. -/
def tableCopiesCard : Claim7 := { stood := { row := tableCopiesRow, standIns := [], harness := (true, "ea6b2215601ab998bb6b6ab8ad8394251a6addd12085960730873644d582f086"), looks := false }, kinds := [], alts := [], laidByText := true, laidKinds := [.data], laidTests := true, laidLooks := .later }
def TableCopiesCardSaid : Prop := Claim7.holds Tryd.pinned (.plain (OpenSpec.ofChange tableCopiesSpec)) tableCopiesCard

/-- THE TIED CARD OF 'distributarylaw12.TableHolds'. -/
def tableHoldsCard : Claim7 := { stood := { row := tableHoldsRow, standIns := [], harness := (true, "ea6b2215601ab998bb6b6ab8ad8394251a6addd12085960730873644d582f086"), looks := false }, kinds := [], alts := [], laidByText := true, laidKinds := [.data], laidTests := true, laidLooks := .later }
def TableHoldsCardSaid : Prop := Claim7.holds Tryd.pinned (.plain (OpenSpec.ofChange tableHoldsSpec)) tableHoldsCard

/-- THE TIED CARD OF 'distributarylaw12.TableNone'. -/
def tableNoneCard : Claim7 := { stood := { row := tableNoneRow, standIns := [], harness := (true, "ea6b2215601ab998bb6b6ab8ad8394251a6addd12085960730873644d582f086"), looks := false }, kinds := [], alts := [], laidByText := true, laidKinds := [.data], laidTests := true, laidLooks := .later }
def TableNoneCardSaid : Prop := Claim7.holds Tryd.pinned (.plain (OpenSpec.ofChange tableNoneSpec)) tableNoneCard

/-- THE TIED CARD OF 'distributarylaw12.TableGone'. -/
def tableGoneCard : Claim7 := { stood := { row := tableGoneRow, standIns := [], harness := (true, "ea6b2215601ab998bb6b6ab8ad8394251a6addd12085960730873644d582f086"), looks := false }, kinds := [], alts := [], laidByText := true, laidKinds := [.data], laidTests := true, laidLooks := .later }
def TableGoneCardSaid : Prop := Claim7.holds Tryd.pinned (.plain (OpenSpec.ofChange tableGoneSpec)) tableGoneCard

/-- THE SECOND FORM's CARD OF 'distributarylaw12.TableValues'. -/
def tableValuesUptoCard : Claim7 := { stood := { row := tableValuesUptoRow, standIns := [], harness := (true, "ea6b2215601ab998bb6b6ab8ad8394251a6addd12085960730873644d582f086"), looks := false }, kinds := [], alts := [], laidByText := true, laidKinds := [.data], laidTests := true, laidLooks := .later }
def TableValuesUptoCardSaid : Prop := Claim7.holds Tryd.pinned (.plain (OpenSpec.upto tableValuesSpec)) tableValuesUptoCard

/-- THE SECOND FORM's CARD OF 'distributarylaw12.TableIds'. -/
def tableIdsUptoCard : Claim7 := { stood := { row := tableIdsUptoRow, standIns := [], harness := (true, "ea6b2215601ab998bb6b6ab8ad8394251a6addd12085960730873644d582f086"), looks := false }, kinds := [], alts := [], laidByText := true, laidKinds := [.data], laidTests := true, laidLooks := .later }
def TableIdsUptoCardSaid : Prop := Claim7.holds Tryd.pinned (.plain (OpenSpec.upto tableIdsSpec)) tableIdsUptoCard

/-- THE SECOND FORM's CARD OF 'distributarylaw12.TableCopies'. -/
def tableCopiesUptoCard : Claim7 := { stood := { row := tableCopiesUptoRow, standIns := [], harness := (true, "ea6b2215601ab998bb6b6ab8ad8394251a6addd12085960730873644d582f086"), looks := false }, kinds := [], alts := [], laidByText := true, laidKinds := [.data], laidTests := true, laidLooks := .later }
def TableCopiesUptoCardSaid : Prop := Claim7.holds Tryd.pinned (.plain (OpenSpec.upto tableCopiesSpec)) tableCopiesUptoCard

/-- THE SECOND FORM's CARD OF 'distributarylaw12.TableHolds'. -/
def tableHoldsUptoCard : Claim7 := { stood := { row := tableHoldsUptoRow, standIns := [], harness := (true, "ea6b2215601ab998bb6b6ab8ad8394251a6addd12085960730873644d582f086"), looks := false }, kinds := [], alts := [], laidByText := true, laidKinds := [.data], laidTests := true, laidLooks := .later }
def TableHoldsUptoCardSaid : Prop := Claim7.holds Tryd.pinned (.plain (OpenSpec.upto tableHoldsSpec)) tableHoldsUptoCard

/-- THE SECOND FORM's CARD OF 'distributarylaw12.TableNone'. -/
def tableNoneUptoCard : Claim7 := { stood := { row := tableNoneUptoRow, standIns := [], harness := (true, "ea6b2215601ab998bb6b6ab8ad8394251a6addd12085960730873644d582f086"), looks := false }, kinds := [], alts := [], laidByText := true, laidKinds := [.data], laidTests := true, laidLooks := .later }
def TableNoneUptoCardSaid : Prop := Claim7.holds Tryd.pinned (.plain (OpenSpec.upto tableNoneSpec)) tableNoneUptoCard

/-- THE SECOND FORM's CARD OF 'distributarylaw12.TableGone'. -/
def tableGoneUptoCard : Claim7 := { stood := { row := tableGoneUptoRow, standIns := [], harness := (true, "ea6b2215601ab998bb6b6ab8ad8394251a6addd12085960730873644d582f086"), looks := false }, kinds := [], alts := [], laidByText := true, laidKinds := [.data], laidTests := true, laidLooks := .later }
def TableGoneUptoCardSaid : Prop := Claim7.holds Tryd.pinned (.plain (OpenSpec.upto tableGoneSpec)) tableGoneUptoCard
end Rows
end Go.Proofs.YtddehgcdflfonaaDoor
