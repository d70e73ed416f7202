/-
  DERIVED. GIVEN WITH THE SEED: THE CARDS: each row of YtgiigemfbebcgaaGreatDoorRows.lean that lists a variable, with what it lists TIED to the program's text (the seventh form; the later family's looks); each row that meets fmt, with fmt's text TOLD by the authors' own Lean function (tested against real Go, not proved from fmt's source: count such statements apart). THE CARD IS WHAT COUNTS. Prove the row's statement (the work); the ties are given (YtgiigemfbebcgaaGreatDoorTie.lean); close each card by the builder's one call (the guide's Derived/Test/ToyasCard.lean, 'card_holds'). Laid BY PROGRAM, IN A SANDBOX (cutbox-door.mjs). By AI agents, Wed Nov 11 2026. No macro, syntax, notation, axiom, sorry.
-/
import Derived.Test.YtgiigemfbebcgaaGreatDoorRows
import GoSem.ClaimSeven
namespace Go.Proofs.YtgiigemfbebcgaaGreatDoor
namespace Rows

/-- THE TIED CARD OF 'haversacklaw14.IndexSpoilt'. -/
def indexSpoiltCard : Claim7 := { stood := { row := indexSpoiltRow, standIns := [], harness := (true, "afca43b0fa67e3f497cc2f9cc0fc9a2b14abca8d2140efc26294393028067718"), looks := true }, kinds := [], alts := [], laidByText := true, laidKinds := [.data, .data, .data, .data, .sentinel, .sentinel, .pinned], laidTests := true, laidLooks := .later }
def IndexSpoiltCardSaid : Prop := Claim7.holds Tryz.pinned (.plain (OpenSpec.ofChange indexSpoiltSpec)) indexSpoiltCard

/-- THE TIED CARD OF 'haversacklaw14.IndexAsks'. -/
def indexAsksCard : Claim7 := { stood := { row := indexAsksRow, standIns := [], harness := (true, "afca43b0fa67e3f497cc2f9cc0fc9a2b14abca8d2140efc26294393028067718"), looks := true }, kinds := [], alts := [], laidByText := true, laidKinds := [.data, .data, .data, .data, .sentinel, .sentinel, .pinned], laidTests := true, laidLooks := .later }
def IndexAsksCardSaid : Prop := Claim7.holds Tryz.pinned (.plain (OpenSpec.ofChange indexAsksSpec)) indexAsksCard

/-- THE TIED CARD OF 'haversacklaw14.IndexMany'. -/
def indexManyCard : Claim7 := { stood := { row := indexManyRow, standIns := [], harness := (true, "afca43b0fa67e3f497cc2f9cc0fc9a2b14abca8d2140efc26294393028067718"), looks := true }, kinds := [], alts := [], laidByText := true, laidKinds := [.data, .data, .data, .data, .sentinel, .sentinel, .pinned], laidTests := true, laidLooks := .later }
def IndexManyCardSaid : Prop := Claim7.holds Tryz.pinned (.plain (OpenSpec.ofChange indexManySpec)) indexManyCard

/-- THE TIED CARD OF 'haversacklaw14.IndexOrder'. -/
def indexOrderCard : Claim7 := { stood := { row := indexOrderRow, standIns := [], harness := (true, "afca43b0fa67e3f497cc2f9cc0fc9a2b14abca8d2140efc26294393028067718"), looks := true }, kinds := [], alts := [], laidByText := true, laidKinds := [.data, .data, .data, .data, .sentinel, .sentinel, .pinned], laidTests := true, laidLooks := .later }
def IndexOrderCardSaid : Prop := Claim7.holds Tryz.pinned (.plain (OpenSpec.ofChange indexOrderSpec)) indexOrderCard

/-- THE SECOND FORM's CARD OF 'haversacklaw14.IndexSpoilt'. -/
def indexSpoiltUptoCard : Claim7 := { stood := { row := indexSpoiltUptoRow, standIns := [], harness := (true, "afca43b0fa67e3f497cc2f9cc0fc9a2b14abca8d2140efc26294393028067718"), looks := true }, kinds := [], alts := [], laidByText := true, laidKinds := [.data, .data, .data, .data, .sentinel, .sentinel, .pinned], laidTests := true, laidLooks := .later }
def IndexSpoiltUptoCardSaid : Prop := Claim7.holds Tryz.pinned (.plain (OpenSpec.upto indexSpoiltSpec)) indexSpoiltUptoCard

/-- THE SECOND FORM's CARD OF 'haversacklaw14.IndexAsks'. -/
def indexAsksUptoCard : Claim7 := { stood := { row := indexAsksUptoRow, standIns := [], harness := (true, "afca43b0fa67e3f497cc2f9cc0fc9a2b14abca8d2140efc26294393028067718"), looks := true }, kinds := [], alts := [], laidByText := true, laidKinds := [.data, .data, .data, .data, .sentinel, .sentinel, .pinned], laidTests := true, laidLooks := .later }
def IndexAsksUptoCardSaid : Prop := Claim7.holds Tryz.pinned (.plain (OpenSpec.upto indexAsksSpec)) indexAsksUptoCard

/-- THE SECOND FORM's CARD OF 'haversacklaw14.IndexMany'. -/
def indexManyUptoCard : Claim7 := { stood := { row := indexManyUptoRow, standIns := [], harness := (true, "afca43b0fa67e3f497cc2f9cc0fc9a2b14abca8d2140efc26294393028067718"), looks := true }, kinds := [], alts := [], laidByText := true, laidKinds := [.data, .data, .data, .data, .sentinel, .sentinel, .pinned], laidTests := true, laidLooks := .later }
def IndexManyUptoCardSaid : Prop := Claim7.holds Tryz.pinned (.plain (OpenSpec.upto indexManySpec)) indexManyUptoCard

/-- THE SECOND FORM's CARD OF 'haversacklaw14.IndexOrder'. -/
def indexOrderUptoCard : Claim7 := { stood := { row := indexOrderUptoRow, standIns := [], harness := (true, "afca43b0fa67e3f497cc2f9cc0fc9a2b14abca8d2140efc26294393028067718"), looks := true }, kinds := [], alts := [], laidByText := true, laidKinds := [.data, .data, .data, .data, .sentinel, .sentinel, .pinned], laidTests := true, laidLooks := .later }
def IndexOrderUptoCardSaid : Prop := Claim7.holds Tryz.pinned (.plain (OpenSpec.upto indexOrderSpec)) indexOrderUptoCard
end Rows
end Go.Proofs.YtgiigemfbebcgaaGreatDoor
