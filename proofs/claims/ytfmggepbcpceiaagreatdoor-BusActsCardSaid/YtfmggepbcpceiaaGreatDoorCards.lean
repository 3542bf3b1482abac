/-
  DERIVED. GIVEN WITH THE SEED: THE CARDS: each row of YtfmggepbcpceiaaGreatDoorRows.lean that lists a variable, with what it lists TIED to the program's text (the seventh form; the later family's looks); each row that meets fmt, with fmt's text TOLD by the authors' own Lean function (tested against real Go, not proved from fmt's source: count such statements apart). THE CARD IS WHAT COUNTS. Prove the row's statement (the work); the ties are given (YtfmggepbcpceiaaGreatDoorTie.lean); close each card by the builder's one call (the guide's Derived/Test/ToyasCard.lean, 'card_holds'). Laid BY PROGRAM, IN A SANDBOX (cutbox-door.mjs). By AI agents, Wed Nov 11 2026. No macro, syntax, notation, axiom, sorry.
-/
import Derived.Test.YtfmggepbcpceiaaGreatDoorRows
import GoSem.ClaimSeven
namespace Go.Proofs.YtfmggepbcpceiaaGreatDoor
namespace Rows

/-- THE TIED CARD OF 'tramwaylaw04.BusEnds'. -/
def busEndsCard : Claim7 := { stood := { row := busEndsRow, standIns := [], harness := (true, "4480a65832df3e5958671c3e9c777622d314fa9105391be0753bae9bde8266e3"), looks := false }, kinds := [], alts := [], laidByText := true, laidKinds := [.data, .data, .data, .data, .pinned], laidTests := true, laidLooks := .later }
def BusEndsCardSaid : Prop := Claim7.holds Tryz.pinned (.plain (OpenSpec.ofChange busEndsSpec)) busEndsCard

/-- THE TIED CARD OF 'tramwaylaw04.BusApart'. -/
def busApartCard : Claim7 := { stood := { row := busApartRow, standIns := [], harness := (true, "4480a65832df3e5958671c3e9c777622d314fa9105391be0753bae9bde8266e3"), looks := false }, kinds := [], alts := [], laidByText := true, laidKinds := [.data, .data, .data, .data, .pinned], laidTests := true, laidLooks := .later }
def BusApartCardSaid : Prop := Claim7.holds Tryz.pinned (.plain (OpenSpec.ofChange busApartSpec)) busApartCard

/-- THE TIED CARD OF 'tramwaylaw04.BusRounds'. -/
def busRoundsCard : Claim7 := { stood := { row := busRoundsRow, standIns := [], harness := (true, "4480a65832df3e5958671c3e9c777622d314fa9105391be0753bae9bde8266e3"), looks := false }, kinds := [], alts := [], laidByText := true, laidKinds := [.data, .data, .data, .data, .pinned], laidTests := true, laidLooks := .later }
def BusRoundsCardSaid : Prop := Claim7.holds Tryz.pinned (.plain (OpenSpec.ofChange busRoundsSpec)) busRoundsCard

/-- THE TIED CARD OF 'tramwaylaw04.BusTurned'. -/
def busTurnedCard : Claim7 := { stood := { row := busTurnedRow, standIns := [], harness := (true, "4480a65832df3e5958671c3e9c777622d314fa9105391be0753bae9bde8266e3"), looks := false }, kinds := [], alts := [], laidByText := true, laidKinds := [.data, .data, .data, .data, .pinned], laidTests := true, laidLooks := .later }
def BusTurnedCardSaid : Prop := Claim7.holds Tryz.pinned (.plain (OpenSpec.ofChange busTurnedSpec)) busTurnedCard

/-- THE TIED CARD OF 'tramwaylaw04.BusTwice'. -/
def busTwiceCard : Claim7 := { stood := { row := busTwiceRow, standIns := [], harness := (true, "4480a65832df3e5958671c3e9c777622d314fa9105391be0753bae9bde8266e3"), looks := false }, kinds := [], alts := [], laidByText := true, laidKinds := [.data, .data, .data, .data, .pinned], laidTests := true, laidLooks := .later }
def BusTwiceCardSaid : Prop := Claim7.holds Tryz.pinned (.plain (OpenSpec.ofChange busTwiceSpec)) busTwiceCard

/-- THE TIED CARD OF 'tramwaylaw04.BusActs'. -/
def busActsCard : Claim7 := { stood := { row := busActsRow, standIns := [], harness := (true, "4480a65832df3e5958671c3e9c777622d314fa9105391be0753bae9bde8266e3"), looks := false }, kinds := [], alts := [], laidByText := true, laidKinds := [.data, .data, .data, .data, .pinned], laidTests := true, laidLooks := .later }
def BusActsCardSaid : Prop := Claim7.holds Tryz.pinned (.plain (OpenSpec.ofChange busActsSpec)) busActsCard

/-- THE SECOND FORM's CARD OF 'tramwaylaw04.BusEnds'. -/
def busEndsUptoCard : Claim7 := { stood := { row := busEndsUptoRow, standIns := [], harness := (true, "4480a65832df3e5958671c3e9c777622d314fa9105391be0753bae9bde8266e3"), looks := false }, kinds := [], alts := [], laidByText := true, laidKinds := [.data, .data, .data, .data, .pinned], laidTests := true, laidLooks := .later }
def BusEndsUptoCardSaid : Prop := Claim7.holds Tryz.pinned (.plain (OpenSpec.upto busEndsSpec)) busEndsUptoCard

/-- THE SECOND FORM's CARD OF 'tramwaylaw04.BusApart'. -/
def busApartUptoCard : Claim7 := { stood := { row := busApartUptoRow, standIns := [], harness := (true, "4480a65832df3e5958671c3e9c777622d314fa9105391be0753bae9bde8266e3"), looks := false }, kinds := [], alts := [], laidByText := true, laidKinds := [.data, .data, .data, .data, .pinned], laidTests := true, laidLooks := .later }
def BusApartUptoCardSaid : Prop := Claim7.holds Tryz.pinned (.plain (OpenSpec.upto busApartSpec)) busApartUptoCard

/-- THE SECOND FORM's CARD OF 'tramwaylaw04.BusRounds'. -/
def busRoundsUptoCard : Claim7 := { stood := { row := busRoundsUptoRow, standIns := [], harness := (true, "4480a65832df3e5958671c3e9c777622d314fa9105391be0753bae9bde8266e3"), looks := false }, kinds := [], alts := [], laidByText := true, laidKinds := [.data, .data, .data, .data, .pinned], laidTests := true, laidLooks := .later }
def BusRoundsUptoCardSaid : Prop := Claim7.holds Tryz.pinned (.plain (OpenSpec.upto busRoundsSpec)) busRoundsUptoCard

/-- THE SECOND FORM's CARD OF 'tramwaylaw04.BusTurned'. -/
def busTurnedUptoCard : Claim7 := { stood := { row := busTurnedUptoRow, standIns := [], harness := (true, "4480a65832df3e5958671c3e9c777622d314fa9105391be0753bae9bde8266e3"), looks := false }, kinds := [], alts := [], laidByText := true, laidKinds := [.data, .data, .data, .data, .pinned], laidTests := true, laidLooks := .later }
def BusTurnedUptoCardSaid : Prop := Claim7.holds Tryz.pinned (.plain (OpenSpec.upto busTurnedSpec)) busTurnedUptoCard

/-- THE SECOND FORM's CARD OF 'tramwaylaw04.BusTwice'. -/
def busTwiceUptoCard : Claim7 := { stood := { row := busTwiceUptoRow, standIns := [], harness := (true, "4480a65832df3e5958671c3e9c777622d314fa9105391be0753bae9bde8266e3"), looks := false }, kinds := [], alts := [], laidByText := true, laidKinds := [.data, .data, .data, .data, .pinned], laidTests := true, laidLooks := .later }
def BusTwiceUptoCardSaid : Prop := Claim7.holds Tryz.pinned (.plain (OpenSpec.upto busTwiceSpec)) busTwiceUptoCard

/-- THE SECOND FORM's CARD OF 'tramwaylaw04.BusActs'. -/
def busActsUptoCard : Claim7 := { stood := { row := busActsUptoRow, standIns := [], harness := (true, "4480a65832df3e5958671c3e9c777622d314fa9105391be0753bae9bde8266e3"), looks := false }, kinds := [], alts := [], laidByText := true, laidKinds := [.data, .data, .data, .data, .pinned], laidTests := true, laidLooks := .later }
def BusActsUptoCardSaid : Prop := Claim7.holds Tryz.pinned (.plain (OpenSpec.upto busActsSpec)) busActsUptoCard
end Rows
end Go.Proofs.YtfmggepbcpceiaaGreatDoor
