/-
  DERIVED. GIVEN WITH THE SEED: THE CARDS: each row of YtledahfkpnbfcaaDoorRows.lean that lists a variable, with what it lists TIED to the program's text (the seventh form; the later family's looks); each row that meets fmt, with fmt's text TOLD by the authors' own Lean function (tested against real Go, not proved from fmt's source: count such statements apart). THE CARD IS WHAT COUNTS. Prove the row's statement (the work); the ties are given (YtledahfkpnbfcaaDoorTie.lean); close each card by the builder's one call (the guide's Derived/Test/ToyasCard.lean, 'card_holds'). Laid BY PROGRAM, IN A SANDBOX (cutbox-door.mjs). By AI agents, Wed Nov 11 2026. No macro, syntax, notation, axiom, sorry.
-/
import Derived.Test.YtledahfkpnbfcaaDoorRows
import GoSem.ClaimSeven
namespace Go.Proofs.YtledahfkpnbfcaaDoor
namespace Rows

/-- THE TIED CARD OF 'tramwaylaw02.FrameCut'. -/
def frameCutCard : Claim7 := { stood := { row := frameCutRow, standIns := [], harness := (true, "8fa24215d8522b3631b11c4aa32d993f08f90f578a6211920ae6730170f74815"), looks := true }, kinds := [], alts := [], laidByText := true, laidKinds := [.data, .data, .data, .data, .pinned], laidTests := true, laidLooks := .later }
def FrameCutCardSaid : Prop := Claim7.holds Tryd.pinned (.plain (OpenSpec.ofChange frameCutSpec)) frameCutCard

/-- THE TIED CARD OF 'tramwaylaw02.FrameEncodes'. -/
def frameEncodesCard : Claim7 := { stood := { row := frameEncodesRow, standIns := [], harness := (true, "8fa24215d8522b3631b11c4aa32d993f08f90f578a6211920ae6730170f74815"), looks := true }, kinds := [], alts := [], laidByText := true, laidKinds := [.data, .data, .data, .data, .pinned], laidTests := true, laidLooks := .later }
def FrameEncodesCardSaid : Prop := Claim7.holds Tryd.pinned (.plain (OpenSpec.ofChange frameEncodesSpec)) frameEncodesCard

/-- THE TIED CARD OF 'tramwaylaw02.FrameOrder'. -/
def frameOrderCard : Claim7 := { stood := { row := frameOrderRow, standIns := [], harness := (true, "8fa24215d8522b3631b11c4aa32d993f08f90f578a6211920ae6730170f74815"), looks := true }, kinds := [], alts := [], laidByText := true, laidKinds := [.data, .data, .data, .data, .pinned], laidTests := true, laidLooks := .later }
def FrameOrderCardSaid : Prop := Claim7.holds Tryd.pinned (.plain (OpenSpec.ofChange frameOrderSpec)) frameOrderCard

/-- THE TIED CARD OF 'tramwaylaw02.FrameFirst'. -/
def frameFirstCard : Claim7 := { stood := { row := frameFirstRow, standIns := [], harness := (true, "8fa24215d8522b3631b11c4aa32d993f08f90f578a6211920ae6730170f74815"), looks := true }, kinds := [], alts := [], laidByText := true, laidKinds := [.data, .data, .data, .data, .pinned], laidTests := true, laidLooks := .later }
def FrameFirstCardSaid : Prop := Claim7.holds Tryd.pinned (.plain (OpenSpec.ofChange frameFirstSpec)) frameFirstCard

/-- THE TIED CARD OF 'tramwaylaw02.FrameFive'. -/
def frameFiveCard : Claim7 := { stood := { row := frameFiveRow, standIns := [], harness := (true, "8fa24215d8522b3631b11c4aa32d993f08f90f578a6211920ae6730170f74815"), looks := true }, kinds := [], alts := [], laidByText := true, laidKinds := [.data, .data, .data, .data, .sentinel, .sentinel, .pinned], laidTests := true, laidLooks := .later }
def FrameFiveCardSaid : Prop := Claim7.holds Tryd.pinned (.plain (OpenSpec.ofChange frameFiveSpec)) frameFiveCard

/-- THE SECOND FORM's CARD OF 'tramwaylaw02.FrameCut'. -/
def frameCutUptoCard : Claim7 := { stood := { row := frameCutUptoRow, standIns := [], harness := (true, "8fa24215d8522b3631b11c4aa32d993f08f90f578a6211920ae6730170f74815"), looks := true }, kinds := [], alts := [], laidByText := true, laidKinds := [.data, .data, .data, .data, .pinned], laidTests := true, laidLooks := .later }
def FrameCutUptoCardSaid : Prop := Claim7.holds Tryd.pinned (.plain (OpenSpec.upto frameCutSpec)) frameCutUptoCard

/-- THE SECOND FORM's CARD OF 'tramwaylaw02.FrameEncodes'. -/
def frameEncodesUptoCard : Claim7 := { stood := { row := frameEncodesUptoRow, standIns := [], harness := (true, "8fa24215d8522b3631b11c4aa32d993f08f90f578a6211920ae6730170f74815"), looks := true }, kinds := [], alts := [], laidByText := true, laidKinds := [.data, .data, .data, .data, .pinned], laidTests := true, laidLooks := .later }
def FrameEncodesUptoCardSaid : Prop := Claim7.holds Tryd.pinned (.plain (OpenSpec.upto frameEncodesSpec)) frameEncodesUptoCard

/-- THE SECOND FORM's CARD OF 'tramwaylaw02.FrameOrder'. -/
def frameOrderUptoCard : Claim7 := { stood := { row := frameOrderUptoRow, standIns := [], harness := (true, "8fa24215d8522b3631b11c4aa32d993f08f90f578a6211920ae6730170f74815"), looks := true }, kinds := [], alts := [], laidByText := true, laidKinds := [.data, .data, .data, .data, .pinned], laidTests := true, laidLooks := .later }
def FrameOrderUptoCardSaid : Prop := Claim7.holds Tryd.pinned (.plain (OpenSpec.upto frameOrderSpec)) frameOrderUptoCard

/-- THE SECOND FORM's CARD OF 'tramwaylaw02.FrameFirst'. -/
def frameFirstUptoCard : Claim7 := { stood := { row := frameFirstUptoRow, standIns := [], harness := (true, "8fa24215d8522b3631b11c4aa32d993f08f90f578a6211920ae6730170f74815"), looks := true }, kinds := [], alts := [], laidByText := true, laidKinds := [.data, .data, .data, .data, .pinned], laidTests := true, laidLooks := .later }
def FrameFirstUptoCardSaid : Prop := Claim7.holds Tryd.pinned (.plain (OpenSpec.upto frameFirstSpec)) frameFirstUptoCard

/-- THE SECOND FORM's CARD OF 'tramwaylaw02.FrameFive'. -/
def frameFiveUptoCard : Claim7 := { stood := { row := frameFiveUptoRow, standIns := [], harness := (true, "8fa24215d8522b3631b11c4aa32d993f08f90f578a6211920ae6730170f74815"), looks := true }, kinds := [], alts := [], laidByText := true, laidKinds := [.data, .data, .data, .data, .sentinel, .sentinel, .pinned], laidTests := true, laidLooks := .later }
def FrameFiveUptoCardSaid : Prop := Claim7.holds Tryd.pinned (.plain (OpenSpec.upto frameFiveSpec)) frameFiveUptoCard
end Rows
end Go.Proofs.YtledahfkpnbfcaaDoor
