/-
  DERIVED. GIVEN WITH THE SEED: THE CARDS: each row of YthgpikgbhkcnbaaDoorRows.lean that lists a variable, with what it lists TIED to the program's text (the seventh form; the later family's looks); each row that meets fmt, with fmt's text TOLD by the authors' own Lean function (tested against real Go, not proved from fmt's source: count such statements apart). THE CARD IS WHAT COUNTS. Prove the row's statement (the work); the ties are given (YthgpikgbhkcnbaaDoorTie.lean); close each card by the builder's one call (the guide's Derived/Test/ToyasCard.lean, 'card_holds'). Laid BY PROGRAM, IN A SANDBOX (cutbox-door.mjs). By AI agents, Wed Nov 11 2026. No macro, syntax, notation, axiom, sorry.
-/
import Derived.Test.YthgpikgbhkcnbaaDoorRows
import GoSem.ClaimSeven
namespace Go.Proofs.YthgpikgbhkcnbaaDoor
namespace Rows

/-- THE TIED CARD OF 'tramwaylaw05.DriverFilters'. -/
def driverFiltersCard : Claim7 := { stood := { row := driverFiltersRow, standIns := [], harness := (true, "0a3411f6bb368c655a8ca783eb8e8ed982edb2ddfc525dffdd2125b35e29fa8e"), looks := true }, kinds := [], alts := [], laidByText := true, laidKinds := [.data, .data, .data], laidTests := true, laidLooks := .later }
def DriverFiltersCardSaid : Prop := Claim7.holds Tryd.pinned (.plain (OpenSpec.ofChange driverFiltersSpec)) driverFiltersCard

/-- THE TIED CARD OF 'tramwaylaw05.DriverOrder'. -/
def driverOrderCard : Claim7 := { stood := { row := driverOrderRow, standIns := [], harness := (true, "0a3411f6bb368c655a8ca783eb8e8ed982edb2ddfc525dffdd2125b35e29fa8e"), looks := true }, kinds := [], alts := [], laidByText := true, laidKinds := [.data, .data, .data], laidTests := true, laidLooks := .later }
def DriverOrderCardSaid : Prop := Claim7.holds Tryd.pinned (.plain (OpenSpec.ofChange driverOrderSpec)) driverOrderCard

/-- THE TIED CARD OF 'tramwaylaw05.DriverRoom'. -/
def driverRoomCard : Claim7 := { stood := { row := driverRoomRow, standIns := [], harness := (true, "0a3411f6bb368c655a8ca783eb8e8ed982edb2ddfc525dffdd2125b35e29fa8e"), looks := true }, kinds := [], alts := [], laidByText := true, laidKinds := [.data, .data, .data], laidTests := true, laidLooks := .later }
def DriverRoomCardSaid : Prop := Claim7.holds Tryd.pinned (.plain (OpenSpec.ofChange driverRoomSpec)) driverRoomCard

/-- THE TIED CARD OF 'tramwaylaw05.DriverActs'. -/
def driverActsCard : Claim7 := { stood := { row := driverActsRow, standIns := [], harness := (true, "0a3411f6bb368c655a8ca783eb8e8ed982edb2ddfc525dffdd2125b35e29fa8e"), looks := true }, kinds := [], alts := [], laidByText := true, laidKinds := [.data, .data, .data], laidTests := true, laidLooks := .later }
def DriverActsCardSaid : Prop := Claim7.holds Tryd.pinned (.plain (OpenSpec.ofChange driverActsSpec)) driverActsCard

/-- THE SECOND FORM's CARD OF 'tramwaylaw05.DriverFilters'. -/
def driverFiltersUptoCard : Claim7 := { stood := { row := driverFiltersUptoRow, standIns := [], harness := (true, "0a3411f6bb368c655a8ca783eb8e8ed982edb2ddfc525dffdd2125b35e29fa8e"), looks := true }, kinds := [], alts := [], laidByText := true, laidKinds := [.data, .data, .data], laidTests := true, laidLooks := .later }
def DriverFiltersUptoCardSaid : Prop := Claim7.holds Tryd.pinned (.plain (OpenSpec.upto driverFiltersSpec)) driverFiltersUptoCard

/-- THE SECOND FORM's CARD OF 'tramwaylaw05.DriverOrder'. -/
def driverOrderUptoCard : Claim7 := { stood := { row := driverOrderUptoRow, standIns := [], harness := (true, "0a3411f6bb368c655a8ca783eb8e8ed982edb2ddfc525dffdd2125b35e29fa8e"), looks := true }, kinds := [], alts := [], laidByText := true, laidKinds := [.data, .data, .data], laidTests := true, laidLooks := .later }
def DriverOrderUptoCardSaid : Prop := Claim7.holds Tryd.pinned (.plain (OpenSpec.upto driverOrderSpec)) driverOrderUptoCard

/-- THE SECOND FORM's CARD OF 'tramwaylaw05.DriverRoom'. -/
def driverRoomUptoCard : Claim7 := { stood := { row := driverRoomUptoRow, standIns := [], harness := (true, "0a3411f6bb368c655a8ca783eb8e8ed982edb2ddfc525dffdd2125b35e29fa8e"), looks := true }, kinds := [], alts := [], laidByText := true, laidKinds := [.data, .data, .data], laidTests := true, laidLooks := .later }
def DriverRoomUptoCardSaid : Prop := Claim7.holds Tryd.pinned (.plain (OpenSpec.upto driverRoomSpec)) driverRoomUptoCard

/-- THE SECOND FORM's CARD OF 'tramwaylaw05.DriverActs'. -/
def driverActsUptoCard : Claim7 := { stood := { row := driverActsUptoRow, standIns := [], harness := (true, "0a3411f6bb368c655a8ca783eb8e8ed982edb2ddfc525dffdd2125b35e29fa8e"), looks := true }, kinds := [], alts := [], laidByText := true, laidKinds := [.data, .data, .data], laidTests := true, laidLooks := .later }
def DriverActsUptoCardSaid : Prop := Claim7.holds Tryd.pinned (.plain (OpenSpec.upto driverActsSpec)) driverActsUptoCard
end Rows
end Go.Proofs.YthgpikgbhkcnbaaDoor
