/-
  DERIVED. GIVEN WITH THE SEED: THE CARDS: each row of YtkajoepgebfjoaaDoorRows.lean that lists a variable, with what it lists TIED to the program's text (the seventh form; the later family's looks); each row that meets fmt, with fmt's text TOLD by the authors' own Lean function (tested against real Go, not proved from fmt's source: count such statements apart). THE CARD IS WHAT COUNTS. Prove the row's statement (the work); the ties are given (YtkajoepgebfjoaaDoorTie.lean); close each card by the builder's one call (the guide's Derived/Test/ToyasCard.lean, 'card_holds'). Laid BY PROGRAM, IN A SANDBOX (cutbox-door.mjs). By AI agents, Wed Nov 11 2026. No macro, syntax, notation, axiom, sorry.
-/
import Derived.Test.YtkajoepgebfjoaaDoorRows
import GoSem.ClaimSeven
namespace Go.Proofs.YtkajoepgebfjoaaDoor
namespace Rows

/-- THE TIED CARD OF 'tramwaylaw07.TypesWider'. -/
def typesWiderCard : Claim7 := { stood := { row := typesWiderRow, standIns := [], harness := (true, "e584133b68c4c8d88b3cf52e9caa8ebc1975ea455579023160a9239783f75678"), looks := true }, kinds := [], alts := [], laidByText := true, laidKinds := [.data, .data, .data, .data, .pinned], laidTests := true, laidLooks := .later }
def TypesWiderCardSaid : Prop := Claim7.holds Tryd.pinned (.plain (OpenSpec.ofChange typesWiderSpec)) typesWiderCard

/-- THE TIED CARD OF 'tramwaylaw07.TypesPrints'. -/
def typesPrintsCard : Claim7 := { stood := { row := typesPrintsRow, standIns := [], harness := (true, "e584133b68c4c8d88b3cf52e9caa8ebc1975ea455579023160a9239783f75678"), looks := true }, kinds := [], alts := [], laidByText := true, laidKinds := [.data, .data, .data, .data, .sentinel, .sentinel, .pinned], laidTests := true, laidLooks := .later }
def TypesPrintsCardSaid : Prop := Claim7.holds Tryd.pinned (.plain (OpenSpec.ofChange typesPrintsSpec)) typesPrintsCard

/-- THE TIED CARD OF 'tramwaylaw07.TypesParses'. -/
def typesParsesCard : Claim7 := { stood := { row := typesParsesRow, standIns := [], harness := (true, "e584133b68c4c8d88b3cf52e9caa8ebc1975ea455579023160a9239783f75678"), looks := true }, kinds := [], alts := [], laidByText := true, laidKinds := [.data, .data, .data, .data, .sentinel, .sentinel, .pinned], laidTests := true, laidLooks := .later }
def TypesParsesCardSaid : Prop := Claim7.holds Tryd.pinned (.plain (OpenSpec.ofChange typesParsesSpec)) typesParsesCard

/-- THE SECOND FORM's CARD OF 'tramwaylaw07.TypesWider'. -/
def typesWiderUptoCard : Claim7 := { stood := { row := typesWiderUptoRow, standIns := [], harness := (true, "e584133b68c4c8d88b3cf52e9caa8ebc1975ea455579023160a9239783f75678"), looks := true }, kinds := [], alts := [], laidByText := true, laidKinds := [.data, .data, .data, .data, .pinned], laidTests := true, laidLooks := .later }
def TypesWiderUptoCardSaid : Prop := Claim7.holds Tryd.pinned (.plain (OpenSpec.upto typesWiderSpec)) typesWiderUptoCard

/-- THE SECOND FORM's CARD OF 'tramwaylaw07.TypesPrints'. -/
def typesPrintsUptoCard : Claim7 := { stood := { row := typesPrintsUptoRow, standIns := [], harness := (true, "e584133b68c4c8d88b3cf52e9caa8ebc1975ea455579023160a9239783f75678"), looks := true }, kinds := [], alts := [], laidByText := true, laidKinds := [.data, .data, .data, .data, .sentinel, .sentinel, .pinned], laidTests := true, laidLooks := .later }
def TypesPrintsUptoCardSaid : Prop := Claim7.holds Tryd.pinned (.plain (OpenSpec.upto typesPrintsSpec)) typesPrintsUptoCard

/-- THE SECOND FORM's CARD OF 'tramwaylaw07.TypesParses'. -/
def typesParsesUptoCard : Claim7 := { stood := { row := typesParsesUptoRow, standIns := [], harness := (true, "e584133b68c4c8d88b3cf52e9caa8ebc1975ea455579023160a9239783f75678"), looks := true }, kinds := [], alts := [], laidByText := true, laidKinds := [.data, .data, .data, .data, .sentinel, .sentinel, .pinned], laidTests := true, laidLooks := .later }
def TypesParsesUptoCardSaid : Prop := Claim7.holds Tryd.pinned (.plain (OpenSpec.upto typesParsesSpec)) typesParsesUptoCard
end Rows
end Go.Proofs.YtkajoepgebfjoaaDoor
