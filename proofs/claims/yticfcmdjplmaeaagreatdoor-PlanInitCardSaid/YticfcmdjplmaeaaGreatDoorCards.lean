/-
  DERIVED. GIVEN WITH THE SEED: THE CARDS: each row of YticfcmdjplmaeaaGreatDoorRows.lean that lists a variable, with what it lists TIED to the program's text (the seventh form; the later family's looks); each row that meets fmt, with fmt's text TOLD by the authors' own Lean function (tested against real Go, not proved from fmt's source: count such statements apart). THE CARD IS WHAT COUNTS. Prove the row's statement (the work); the ties are given (YticfcmdjplmaeaaGreatDoorTie.lean); close each card by the builder's one call (the guide's Derived/Test/ToyasCard.lean, 'card_holds'). Laid BY PROGRAM, IN A SANDBOX (cutbox-door.mjs). By AI agents, Wed Nov 11 2026. No macro, syntax, notation, axiom, sorry.
-/
import Derived.Test.YticfcmdjplmaeaaGreatDoorRows
import GoSem.ClaimSeven
namespace Go.Proofs.YticfcmdjplmaeaaGreatDoor
namespace Rows

/-- THE TIED CARD OF 'haversacklaw23.PlanInit'. -/
def planInitCard : Claim7 := { stood := { row := planInitRow, standIns := [], harness := (true, "504266d94a7150f9b0a95afcaa1d7d1029b382fc8b56b1252bb3d5849547388a"), looks := true }, kinds := [], alts := [], laidByText := true, laidKinds := [.data, .data, .data, .data, .handle, .sentinel, .sentinel, .pinned], laidTests := true, laidLooks := .later }
def PlanInitCardSaid : Prop := Claim7.holds Tryz.pinned (.plain (OpenSpec.ofChange planInitSpec)) planInitCard

/-- THE TIED CARD OF 'haversacklaw23.PlanKeeps'. -/
def planKeepsCard : Claim7 := { stood := { row := planKeepsRow, standIns := [], harness := (true, "504266d94a7150f9b0a95afcaa1d7d1029b382fc8b56b1252bb3d5849547388a"), looks := true }, kinds := [], alts := [], laidByText := true, laidKinds := [.data, .data, .data, .data, .handle, .sentinel, .sentinel, .pinned], laidTests := true, laidLooks := .later }
def PlanKeepsCardSaid : Prop := Claim7.holds Tryz.pinned (.plain (OpenSpec.ofChange planKeepsSpec)) planKeepsCard

/-- THE TIED CARD OF 'haversacklaw23.PlanTells'. -/
def planTellsCard : Claim7 := { stood := { row := planTellsRow, standIns := [], harness := (true, "504266d94a7150f9b0a95afcaa1d7d1029b382fc8b56b1252bb3d5849547388a"), looks := true }, kinds := [], alts := [], laidByText := true, laidKinds := [.data, .data, .data, .data, .handle, .sentinel, .sentinel, .pinned], laidTests := true, laidLooks := .later }
def PlanTellsCardSaid : Prop := Claim7.holds Tryz.pinned (.plain (OpenSpec.ofChange planTellsSpec)) planTellsCard

/-- THE TIED CARD OF 'haversacklaw23.PlanLives'. -/
def planLivesCard : Claim7 := { stood := { row := planLivesRow, standIns := [], harness := (true, "504266d94a7150f9b0a95afcaa1d7d1029b382fc8b56b1252bb3d5849547388a"), looks := true }, kinds := [], alts := [], laidByText := true, laidKinds := [.data, .data, .data, .data, .handle, .sentinel, .sentinel, .pinned], laidTests := true, laidLooks := .later }
def PlanLivesCardSaid : Prop := Claim7.holds Tryz.pinned (.plain (OpenSpec.ofChange planLivesSpec)) planLivesCard

/-- THE TIED CARD OF 'haversacklaw23.PlanChanges'. -/
def planChangesCard : Claim7 := { stood := { row := planChangesRow, standIns := [], harness := (true, "504266d94a7150f9b0a95afcaa1d7d1029b382fc8b56b1252bb3d5849547388a"), looks := true }, kinds := [], alts := [], laidByText := true, laidKinds := [.data, .data, .data, .data, .handle, .sentinel, .sentinel, .pinned], laidTests := true, laidLooks := .later }
def PlanChangesCardSaid : Prop := Claim7.holds Tryz.pinned (.plain (OpenSpec.ofChange planChangesSpec)) planChangesCard

/-- THE SECOND FORM's CARD OF 'haversacklaw23.PlanInit'. -/
def planInitUptoCard : Claim7 := { stood := { row := planInitUptoRow, standIns := [], harness := (true, "504266d94a7150f9b0a95afcaa1d7d1029b382fc8b56b1252bb3d5849547388a"), looks := true }, kinds := [], alts := [], laidByText := true, laidKinds := [.data, .data, .data, .data, .handle, .sentinel, .sentinel, .pinned], laidTests := true, laidLooks := .later }
def PlanInitUptoCardSaid : Prop := Claim7.holds Tryz.pinned (.plain (OpenSpec.upto planInitSpec)) planInitUptoCard

/-- THE SECOND FORM's CARD OF 'haversacklaw23.PlanKeeps'. -/
def planKeepsUptoCard : Claim7 := { stood := { row := planKeepsUptoRow, standIns := [], harness := (true, "504266d94a7150f9b0a95afcaa1d7d1029b382fc8b56b1252bb3d5849547388a"), looks := true }, kinds := [], alts := [], laidByText := true, laidKinds := [.data, .data, .data, .data, .handle, .sentinel, .sentinel, .pinned], laidTests := true, laidLooks := .later }
def PlanKeepsUptoCardSaid : Prop := Claim7.holds Tryz.pinned (.plain (OpenSpec.upto planKeepsSpec)) planKeepsUptoCard

/-- THE SECOND FORM's CARD OF 'haversacklaw23.PlanTells'. -/
def planTellsUptoCard : Claim7 := { stood := { row := planTellsUptoRow, standIns := [], harness := (true, "504266d94a7150f9b0a95afcaa1d7d1029b382fc8b56b1252bb3d5849547388a"), looks := true }, kinds := [], alts := [], laidByText := true, laidKinds := [.data, .data, .data, .data, .handle, .sentinel, .sentinel, .pinned], laidTests := true, laidLooks := .later }
def PlanTellsUptoCardSaid : Prop := Claim7.holds Tryz.pinned (.plain (OpenSpec.upto planTellsSpec)) planTellsUptoCard

/-- THE SECOND FORM's CARD OF 'haversacklaw23.PlanLives'. -/
def planLivesUptoCard : Claim7 := { stood := { row := planLivesUptoRow, standIns := [], harness := (true, "504266d94a7150f9b0a95afcaa1d7d1029b382fc8b56b1252bb3d5849547388a"), looks := true }, kinds := [], alts := [], laidByText := true, laidKinds := [.data, .data, .data, .data, .handle, .sentinel, .sentinel, .pinned], laidTests := true, laidLooks := .later }
def PlanLivesUptoCardSaid : Prop := Claim7.holds Tryz.pinned (.plain (OpenSpec.upto planLivesSpec)) planLivesUptoCard

/-- THE SECOND FORM's CARD OF 'haversacklaw23.PlanChanges'. -/
def planChangesUptoCard : Claim7 := { stood := { row := planChangesUptoRow, standIns := [], harness := (true, "504266d94a7150f9b0a95afcaa1d7d1029b382fc8b56b1252bb3d5849547388a"), looks := true }, kinds := [], alts := [], laidByText := true, laidKinds := [.data, .data, .data, .data, .handle, .sentinel, .sentinel, .pinned], laidTests := true, laidLooks := .later }
def PlanChangesUptoCardSaid : Prop := Claim7.holds Tryz.pinned (.plain (OpenSpec.upto planChangesSpec)) planChangesUptoCard
end Rows
end Go.Proofs.YticfcmdjplmaeaaGreatDoor
