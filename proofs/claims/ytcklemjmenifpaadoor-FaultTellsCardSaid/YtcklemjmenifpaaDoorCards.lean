/-
  DERIVED. GIVEN WITH THE SEED: THE CARDS: each row of YtcklemjmenifpaaDoorRows.lean that lists a variable, with what it lists TIED to the program's text (the seventh form; the later family's looks); each row that meets fmt, with fmt's text TOLD by the authors' own Lean function (tested against real Go, not proved from fmt's source: count such statements apart). THE CARD IS WHAT COUNTS. Prove the row's statement (the work); the ties are given (YtcklemjmenifpaaDoorTie.lean); close each card by the builder's one call (the guide's Derived/Test/ToyasCard.lean, 'card_holds'). Laid BY PROGRAM, IN A SANDBOX (cutbox-door.mjs). By AI agents, Wed Nov 11 2026. No macro, syntax, notation, axiom, sorry.
-/
import Derived.Test.YtcklemjmenifpaaDoorRows
import GoSem.ClaimSeven
namespace Go.Proofs.YtcklemjmenifpaaDoor
namespace Rows

/-- THE TIED CARD OF 'gristmilllaw05.FaultStages'. -/
def faultStagesCard : Claim7 := { stood := { row := faultStagesRow, standIns := [], harness := (true, "fe0d508ad691050c1c0e9cc6cbf929c501777ecf1736c001f8aedacae7727d56"), looks := true }, kinds := [], alts := [], laidByText := true, laidKinds := [.data, .data, .data], laidTests := true, laidLooks := .later }
def FaultStagesCardSaid : Prop := Claim7.holds Tryd.pinned (.plain (OpenSpec.ofChange faultStagesSpec)) faultStagesCard

/-- THE TIED CARD OF 'gristmilllaw05.FaultFinds'. -/
def faultFindsCard : Claim7 := { stood := { row := faultFindsRow, standIns := [], harness := (true, "fe0d508ad691050c1c0e9cc6cbf929c501777ecf1736c001f8aedacae7727d56"), looks := true }, kinds := [], alts := [], laidByText := true, laidKinds := [.data, .data, .data, .handle], laidTests := true, laidLooks := .later }
def FaultFindsCardSaid : Prop := Claim7.holds Tryd.pinned (.plain (OpenSpec.ofChange faultFindsSpec)) faultFindsCard

/-- THE TIED CARD OF 'gristmilllaw05.FaultTells'. -/
def faultTellsCard : Claim7 := { stood := { row := faultTellsRow, standIns := [], harness := (true, "fe0d508ad691050c1c0e9cc6cbf929c501777ecf1736c001f8aedacae7727d56"), looks := true }, kinds := [], alts := [], laidByText := true, laidKinds := [.data, .data, .data, .handle], laidTests := true, laidLooks := .later }
def FaultTellsCardSaid : Prop := Claim7.holds Tryd.pinned (.plain (OpenSpec.ofChange faultTellsSpec)) faultTellsCard

/-- THE SECOND FORM's CARD OF 'gristmilllaw05.FaultStages'. -/
def faultStagesUptoCard : Claim7 := { stood := { row := faultStagesUptoRow, standIns := [], harness := (true, "fe0d508ad691050c1c0e9cc6cbf929c501777ecf1736c001f8aedacae7727d56"), looks := true }, kinds := [], alts := [], laidByText := true, laidKinds := [.data, .data, .data], laidTests := true, laidLooks := .later }
def FaultStagesUptoCardSaid : Prop := Claim7.holds Tryd.pinned (.plain (OpenSpec.upto faultStagesSpec)) faultStagesUptoCard

/-- THE SECOND FORM's CARD OF 'gristmilllaw05.FaultFinds'. -/
def faultFindsUptoCard : Claim7 := { stood := { row := faultFindsUptoRow, standIns := [], harness := (true, "fe0d508ad691050c1c0e9cc6cbf929c501777ecf1736c001f8aedacae7727d56"), looks := true }, kinds := [], alts := [], laidByText := true, laidKinds := [.data, .data, .data, .handle], laidTests := true, laidLooks := .later }
def FaultFindsUptoCardSaid : Prop := Claim7.holds Tryd.pinned (.plain (OpenSpec.upto faultFindsSpec)) faultFindsUptoCard

/-- THE SECOND FORM's CARD OF 'gristmilllaw05.FaultTells'. -/
def faultTellsUptoCard : Claim7 := { stood := { row := faultTellsUptoRow, standIns := [], harness := (true, "fe0d508ad691050c1c0e9cc6cbf929c501777ecf1736c001f8aedacae7727d56"), looks := true }, kinds := [], alts := [], laidByText := true, laidKinds := [.data, .data, .data, .handle], laidTests := true, laidLooks := .later }
def FaultTellsUptoCardSaid : Prop := Claim7.holds Tryd.pinned (.plain (OpenSpec.upto faultTellsSpec)) faultTellsUptoCard
end Rows
end Go.Proofs.YtcklemjmenifpaaDoor
