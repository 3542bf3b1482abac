/-
  DERIVED. GIVEN WITH THE SEED: THE CARDS: each row of YtjleekdidedhaaaDoorRows.lean that lists a variable, with what it lists TIED to the program's text (the seventh form; the later family's looks); each row that meets fmt, with fmt's text TOLD by the authors' own Lean function (tested against real Go, not proved from fmt's source: count such statements apart). THE CARD IS WHAT COUNTS. Prove the row's statement (the work); the ties are given (YtjleekdidedhaaaDoorTie.lean); close each card by the builder's one call (the guide's Derived/Test/ToyasCard.lean, 'card_holds'). Laid BY PROGRAM, IN A SANDBOX (cutbox-door.mjs). By AI agents, Wed Nov 11 2026. No macro, syntax, notation, axiom, sorry.
-/
import Derived.Test.YtjleekdidedhaaaDoorRows
import GoSem.ClaimSeven
namespace Go.Proofs.YtjleekdidedhaaaDoor
namespace Rows

/-- THE TIED CARD OF 'tramwaylaw25.LoadMore'. -/
def loadMoreCard : Claim7 := { stood := { row := loadMoreRow, standIns := [], harness := (true, "35baca91bbec60ffb2aac22b5a340b64aa6c07826242bf50b3debfab596328b1"), looks := true }, kinds := [], alts := [], laidByText := true, laidKinds := [.data, .data, .data], laidTests := true, laidLooks := .later }
def LoadMoreCardSaid : Prop := Claim7.holds Tryd.pinned (.plain (OpenSpec.ofChange loadMoreSpec)) loadMoreCard

/-- THE TIED CARD OF 'tramwaylaw25.LoadLeast'. -/
def loadLeastCard : Claim7 := { stood := { row := loadLeastRow, standIns := [], harness := (true, "35baca91bbec60ffb2aac22b5a340b64aa6c07826242bf50b3debfab596328b1"), looks := true }, kinds := [], alts := [], laidByText := true, laidKinds := [.data, .data, .data], laidTests := true, laidLooks := .later }
def LoadLeastCardSaid : Prop := Claim7.holds Tryd.pinned (.plain (OpenSpec.ofChange loadLeastSpec)) loadLeastCard

/-- THE TIED CARD OF 'tramwaylaw25.LoadPlays'. -/
def loadPlaysCard : Claim7 := { stood := { row := loadPlaysRow, standIns := [], harness := (true, "35baca91bbec60ffb2aac22b5a340b64aa6c07826242bf50b3debfab596328b1"), looks := true }, kinds := [], alts := [], laidByText := true, laidKinds := [.data, .data, .data], laidTests := true, laidLooks := .later }
def LoadPlaysCardSaid : Prop := Claim7.holds Tryd.pinned (.plain (OpenSpec.ofChange loadPlaysSpec)) loadPlaysCard

/-- THE TIED CARD OF 'tramwaylaw25.LoadTurned'. -/
def loadTurnedCard : Claim7 := { stood := { row := loadTurnedRow, standIns := [], harness := (true, "35baca91bbec60ffb2aac22b5a340b64aa6c07826242bf50b3debfab596328b1"), looks := true }, kinds := [], alts := [], laidByText := true, laidKinds := [.data, .data, .data], laidTests := true, laidLooks := .later }
def LoadTurnedCardSaid : Prop := Claim7.holds Tryd.pinned (.plain (OpenSpec.ofChange loadTurnedSpec)) loadTurnedCard

/-- THE TIED CARD OF 'tramwaylaw25.LoadReckons'. -/
def loadReckonsCard : Claim7 := { stood := { row := loadReckonsRow, standIns := [], harness := (true, "35baca91bbec60ffb2aac22b5a340b64aa6c07826242bf50b3debfab596328b1"), looks := true }, kinds := [], alts := [], laidByText := true, laidKinds := [.data, .data, .data], laidTests := true, laidLooks := .later }
def LoadReckonsCardSaid : Prop := Claim7.holds Tryd.pinned (.plain (OpenSpec.ofChange loadReckonsSpec)) loadReckonsCard

/-- THE SECOND FORM's CARD OF 'tramwaylaw25.LoadMore'. -/
def loadMoreUptoCard : Claim7 := { stood := { row := loadMoreUptoRow, standIns := [], harness := (true, "35baca91bbec60ffb2aac22b5a340b64aa6c07826242bf50b3debfab596328b1"), looks := true }, kinds := [], alts := [], laidByText := true, laidKinds := [.data, .data, .data], laidTests := true, laidLooks := .later }
def LoadMoreUptoCardSaid : Prop := Claim7.holds Tryd.pinned (.plain (OpenSpec.upto loadMoreSpec)) loadMoreUptoCard

/-- THE SECOND FORM's CARD OF 'tramwaylaw25.LoadLeast'. -/
def loadLeastUptoCard : Claim7 := { stood := { row := loadLeastUptoRow, standIns := [], harness := (true, "35baca91bbec60ffb2aac22b5a340b64aa6c07826242bf50b3debfab596328b1"), looks := true }, kinds := [], alts := [], laidByText := true, laidKinds := [.data, .data, .data], laidTests := true, laidLooks := .later }
def LoadLeastUptoCardSaid : Prop := Claim7.holds Tryd.pinned (.plain (OpenSpec.upto loadLeastSpec)) loadLeastUptoCard

/-- THE SECOND FORM's CARD OF 'tramwaylaw25.LoadPlays'. -/
def loadPlaysUptoCard : Claim7 := { stood := { row := loadPlaysUptoRow, standIns := [], harness := (true, "35baca91bbec60ffb2aac22b5a340b64aa6c07826242bf50b3debfab596328b1"), looks := true }, kinds := [], alts := [], laidByText := true, laidKinds := [.data, .data, .data], laidTests := true, laidLooks := .later }
def LoadPlaysUptoCardSaid : Prop := Claim7.holds Tryd.pinned (.plain (OpenSpec.upto loadPlaysSpec)) loadPlaysUptoCard

/-- THE SECOND FORM's CARD OF 'tramwaylaw25.LoadTurned'. -/
def loadTurnedUptoCard : Claim7 := { stood := { row := loadTurnedUptoRow, standIns := [], harness := (true, "35baca91bbec60ffb2aac22b5a340b64aa6c07826242bf50b3debfab596328b1"), looks := true }, kinds := [], alts := [], laidByText := true, laidKinds := [.data, .data, .data], laidTests := true, laidLooks := .later }
def LoadTurnedUptoCardSaid : Prop := Claim7.holds Tryd.pinned (.plain (OpenSpec.upto loadTurnedSpec)) loadTurnedUptoCard

/-- THE SECOND FORM's CARD OF 'tramwaylaw25.LoadReckons'. -/
def loadReckonsUptoCard : Claim7 := { stood := { row := loadReckonsUptoRow, standIns := [], harness := (true, "35baca91bbec60ffb2aac22b5a340b64aa6c07826242bf50b3debfab596328b1"), looks := true }, kinds := [], alts := [], laidByText := true, laidKinds := [.data, .data, .data], laidTests := true, laidLooks := .later }
def LoadReckonsUptoCardSaid : Prop := Claim7.holds Tryd.pinned (.plain (OpenSpec.upto loadReckonsSpec)) loadReckonsUptoCard
end Rows
end Go.Proofs.YtjleekdidedhaaaDoor
