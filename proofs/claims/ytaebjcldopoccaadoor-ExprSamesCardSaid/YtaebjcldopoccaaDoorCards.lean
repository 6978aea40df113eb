/-
  DERIVED. GIVEN WITH THE SEED: THE CARDS: each row of YtaebjcldopoccaaDoorRows.lean that lists a variable, with what it lists TIED to the program's text (the seventh form; the later family's looks); each row that meets fmt, with fmt's text TOLD by the authors' own Lean function (tested against real Go, not proved from fmt's source: count such statements apart). THE CARD IS WHAT COUNTS. Prove the row's statement (the work); the ties are given (YtaebjcldopoccaaDoorTie.lean); close each card by the builder's one call (the guide's Derived/Test/ToyasCard.lean, 'card_holds'). Laid BY PROGRAM, IN A SANDBOX (cutbox-door.mjs). By AI agents, Wed Nov 11 2026. No macro, syntax, notation, axiom, sorry.
-/
import Derived.Test.YtaebjcldopoccaaDoorRows
import GoSem.ClaimSeven
namespace Go.Proofs.YtaebjcldopoccaaDoor
namespace Rows

/-- THE TIED CARD OF 'gristmilllaw09.ExprNames'. -/
def exprNamesCard : Claim7 := { stood := { row := exprNamesRow, standIns := [], harness := (true, "53993aafab51a479d88fb976f7216d652c186bd1037798cbd01b6f416a45a713"), looks := false }, kinds := [], alts := [], laidByText := true, laidKinds := [.data, .data, .data], laidTests := true, laidLooks := .later }
def ExprNamesCardSaid : Prop := Claim7.holds Tryd.pinned (.plain (OpenSpec.ofChange exprNamesSpec)) exprNamesCard

/-- THE TIED CARD OF 'gristmilllaw09.ExprSames'. -/
def exprSamesCard : Claim7 := { stood := { row := exprSamesRow, standIns := [], harness := (true, "53993aafab51a479d88fb976f7216d652c186bd1037798cbd01b6f416a45a713"), looks := false }, kinds := [], alts := [], laidByText := true, laidKinds := [.data, .data, .data], laidTests := true, laidLooks := .later }
def ExprSamesCardSaid : Prop := Claim7.holds Tryd.pinned (.plain (OpenSpec.ofChange exprSamesSpec)) exprSamesCard

/-- THE TIED CARD OF 'gristmilllaw09.ExprShapes'. -/
def exprShapesCard : Claim7 := { stood := { row := exprShapesRow, standIns := [], harness := (true, "53993aafab51a479d88fb976f7216d652c186bd1037798cbd01b6f416a45a713"), looks := false }, kinds := [], alts := [], laidByText := true, laidKinds := [.data, .data, .data], laidTests := true, laidLooks := .later }
def ExprShapesCardSaid : Prop := Claim7.holds Tryd.pinned (.plain (OpenSpec.ofChange exprShapesSpec)) exprShapesCard

/-- THE SECOND FORM's CARD OF 'gristmilllaw09.ExprNames'. -/
def exprNamesUptoCard : Claim7 := { stood := { row := exprNamesUptoRow, standIns := [], harness := (true, "53993aafab51a479d88fb976f7216d652c186bd1037798cbd01b6f416a45a713"), looks := false }, kinds := [], alts := [], laidByText := true, laidKinds := [.data, .data, .data], laidTests := true, laidLooks := .later }
def ExprNamesUptoCardSaid : Prop := Claim7.holds Tryd.pinned (.plain (OpenSpec.upto exprNamesSpec)) exprNamesUptoCard

/-- THE SECOND FORM's CARD OF 'gristmilllaw09.ExprSames'. -/
def exprSamesUptoCard : Claim7 := { stood := { row := exprSamesUptoRow, standIns := [], harness := (true, "53993aafab51a479d88fb976f7216d652c186bd1037798cbd01b6f416a45a713"), looks := false }, kinds := [], alts := [], laidByText := true, laidKinds := [.data, .data, .data], laidTests := true, laidLooks := .later }
def ExprSamesUptoCardSaid : Prop := Claim7.holds Tryd.pinned (.plain (OpenSpec.upto exprSamesSpec)) exprSamesUptoCard

/-- THE SECOND FORM's CARD OF 'gristmilllaw09.ExprShapes'. -/
def exprShapesUptoCard : Claim7 := { stood := { row := exprShapesUptoRow, standIns := [], harness := (true, "53993aafab51a479d88fb976f7216d652c186bd1037798cbd01b6f416a45a713"), looks := false }, kinds := [], alts := [], laidByText := true, laidKinds := [.data, .data, .data], laidTests := true, laidLooks := .later }
def ExprShapesUptoCardSaid : Prop := Claim7.holds Tryd.pinned (.plain (OpenSpec.upto exprShapesSpec)) exprShapesUptoCard
end Rows
end Go.Proofs.YtaebjcldopoccaaDoor
