/-
  DERIVED. GIVEN WITH THE SEED: THE CARDS: each row of YtijnjklofdmelaaDoorRows.lean that lists a variable, with what it lists TIED to the program's text (the seventh form; the later family's looks); each row that meets fmt, with fmt's text TOLD by the authors' own Lean function (tested against real Go, not proved from fmt's source: count such statements apart). THE CARD IS WHAT COUNTS. Prove the row's statement (the work); the ties are given (YtijnjklofdmelaaDoorTie.lean); close each card by the builder's one call (the guide's Derived/Test/ToyasCard.lean, 'card_holds'). Laid BY PROGRAM, IN A SANDBOX (cutbox-door.mjs). By AI agents, Wed Nov 11 2026. No macro, syntax, notation, axiom, sorry.
-/
import Derived.Test.YtijnjklofdmelaaDoorRows
import GoSem.ClaimSeven
namespace Go.Proofs.YtijnjklofdmelaaDoor
namespace Rows

/-- THE TIED CARD OF 'tramwaylaw01.BitsLinear'. -/
def bitsLinearCard : Claim7 := { stood := { row := bitsLinearRow, standIns := [], harness := (true, "cecebe12bfc4c5c953544541e71e0dcdea0c46573c9059ae46d71ba04ef7fa88"), looks := true }, kinds := [], alts := [], laidByText := true, laidKinds := [.data, .pinned], laidTests := true, laidLooks := .later }
def BitsLinearCardSaid : Prop := Claim7.holds Tryd.pinned (.plain (OpenSpec.ofChange bitsLinearSpec)) bitsLinearCard

/-- THE TIED CARD OF 'tramwaylaw01.BitsSums'. -/
def bitsSumsCard : Claim7 := { stood := { row := bitsSumsRow, standIns := [], harness := (true, "cecebe12bfc4c5c953544541e71e0dcdea0c46573c9059ae46d71ba04ef7fa88"), looks := true }, kinds := [], alts := [], laidByText := true, laidKinds := [.data, .pinned], laidTests := true, laidLooks := .later }
def BitsSumsCardSaid : Prop := Claim7.holds Tryd.pinned (.plain (OpenSpec.ofChange bitsSumsSpec)) bitsSumsCard

/-- THE TIED CARD OF 'tramwaylaw01.BitsRemain'. -/
def bitsRemainCard : Claim7 := { stood := { row := bitsRemainRow, standIns := [], harness := (true, "cecebe12bfc4c5c953544541e71e0dcdea0c46573c9059ae46d71ba04ef7fa88"), looks := true }, kinds := [], alts := [], laidByText := true, laidKinds := [.data, .pinned], laidTests := true, laidLooks := .later }
def BitsRemainCardSaid : Prop := Claim7.holds Tryd.pinned (.plain (OpenSpec.ofChange bitsRemainSpec)) bitsRemainCard

/-- THE TIED CARD OF 'tramwaylaw01.BitsStuffs'. -/
def bitsStuffsCard : Claim7 := { stood := { row := bitsStuffsRow, standIns := [], harness := (true, "cecebe12bfc4c5c953544541e71e0dcdea0c46573c9059ae46d71ba04ef7fa88"), looks := true }, kinds := [], alts := [], laidByText := true, laidKinds := [.data, .pinned], laidTests := true, laidLooks := .later }
def BitsStuffsCardSaid : Prop := Claim7.holds Tryd.pinned (.plain (OpenSpec.ofChange bitsStuffsSpec)) bitsStuffsCard

/-- THE TIED CARD OF 'tramwaylaw01.BitsWires'. -/
def bitsWiresCard : Claim7 := { stood := { row := bitsWiresRow, standIns := [], harness := (true, "cecebe12bfc4c5c953544541e71e0dcdea0c46573c9059ae46d71ba04ef7fa88"), looks := true }, kinds := [], alts := [], laidByText := true, laidKinds := [.data, .pinned], laidTests := true, laidLooks := .later }
def BitsWiresCardSaid : Prop := Claim7.holds Tryd.pinned (.plain (OpenSpec.ofChange bitsWiresSpec)) bitsWiresCard

/-- THE TIED CARD OF 'tramwaylaw01.BitsNumbers'. -/
def bitsNumbersCard : Claim7 := { stood := { row := bitsNumbersRow, standIns := [], harness := (true, "cecebe12bfc4c5c953544541e71e0dcdea0c46573c9059ae46d71ba04ef7fa88"), looks := true }, kinds := [], alts := [], laidByText := true, laidKinds := [.data, .data, .data, .data, .sentinel, .sentinel, .pinned], laidTests := true, laidLooks := .later }
def BitsNumbersCardSaid : Prop := Claim7.holds Tryd.pinned (.plain (OpenSpec.ofChange bitsNumbersSpec)) bitsNumbersCard

/-- THE TIED CARD OF 'tramwaylaw01.BitsFive'. -/
def bitsFiveCard : Claim7 := { stood := { row := bitsFiveRow, standIns := [], harness := (true, "cecebe12bfc4c5c953544541e71e0dcdea0c46573c9059ae46d71ba04ef7fa88"), looks := true }, kinds := [], alts := [], laidByText := true, laidKinds := [.data, .data, .data, .data, .sentinel, .sentinel, .pinned], laidTests := true, laidLooks := .later }
def BitsFiveCardSaid : Prop := Claim7.holds Tryd.pinned (.plain (OpenSpec.ofChange bitsFiveSpec)) bitsFiveCard

/-- THE TIED CARD OF 'tramwaylaw01.BitsBursts'. -/
def bitsBurstsCard : Claim7 := { stood := { row := bitsBurstsRow, standIns := [], harness := (true, "cecebe12bfc4c5c953544541e71e0dcdea0c46573c9059ae46d71ba04ef7fa88"), looks := true }, kinds := [], alts := [], laidByText := true, laidKinds := [.data, .data, .data, .data, .sentinel, .sentinel, .pinned], laidTests := true, laidLooks := .later }
def BitsBurstsCardSaid : Prop := Claim7.holds Tryd.pinned (.plain (OpenSpec.ofChange bitsBurstsSpec)) bitsBurstsCard

/-- THE SECOND FORM's CARD OF 'tramwaylaw01.BitsLinear'. -/
def bitsLinearUptoCard : Claim7 := { stood := { row := bitsLinearUptoRow, standIns := [], harness := (true, "cecebe12bfc4c5c953544541e71e0dcdea0c46573c9059ae46d71ba04ef7fa88"), looks := true }, kinds := [], alts := [], laidByText := true, laidKinds := [.data, .pinned], laidTests := true, laidLooks := .later }
def BitsLinearUptoCardSaid : Prop := Claim7.holds Tryd.pinned (.plain (OpenSpec.upto bitsLinearSpec)) bitsLinearUptoCard

/-- THE SECOND FORM's CARD OF 'tramwaylaw01.BitsSums'. -/
def bitsSumsUptoCard : Claim7 := { stood := { row := bitsSumsUptoRow, standIns := [], harness := (true, "cecebe12bfc4c5c953544541e71e0dcdea0c46573c9059ae46d71ba04ef7fa88"), looks := true }, kinds := [], alts := [], laidByText := true, laidKinds := [.data, .pinned], laidTests := true, laidLooks := .later }
def BitsSumsUptoCardSaid : Prop := Claim7.holds Tryd.pinned (.plain (OpenSpec.upto bitsSumsSpec)) bitsSumsUptoCard

/-- THE SECOND FORM's CARD OF 'tramwaylaw01.BitsRemain'. -/
def bitsRemainUptoCard : Claim7 := { stood := { row := bitsRemainUptoRow, standIns := [], harness := (true, "cecebe12bfc4c5c953544541e71e0dcdea0c46573c9059ae46d71ba04ef7fa88"), looks := true }, kinds := [], alts := [], laidByText := true, laidKinds := [.data, .pinned], laidTests := true, laidLooks := .later }
def BitsRemainUptoCardSaid : Prop := Claim7.holds Tryd.pinned (.plain (OpenSpec.upto bitsRemainSpec)) bitsRemainUptoCard

/-- THE SECOND FORM's CARD OF 'tramwaylaw01.BitsStuffs'. -/
def bitsStuffsUptoCard : Claim7 := { stood := { row := bitsStuffsUptoRow, standIns := [], harness := (true, "cecebe12bfc4c5c953544541e71e0dcdea0c46573c9059ae46d71ba04ef7fa88"), looks := true }, kinds := [], alts := [], laidByText := true, laidKinds := [.data, .pinned], laidTests := true, laidLooks := .later }
def BitsStuffsUptoCardSaid : Prop := Claim7.holds Tryd.pinned (.plain (OpenSpec.upto bitsStuffsSpec)) bitsStuffsUptoCard

/-- THE SECOND FORM's CARD OF 'tramwaylaw01.BitsWires'. -/
def bitsWiresUptoCard : Claim7 := { stood := { row := bitsWiresUptoRow, standIns := [], harness := (true, "cecebe12bfc4c5c953544541e71e0dcdea0c46573c9059ae46d71ba04ef7fa88"), looks := true }, kinds := [], alts := [], laidByText := true, laidKinds := [.data, .pinned], laidTests := true, laidLooks := .later }
def BitsWiresUptoCardSaid : Prop := Claim7.holds Tryd.pinned (.plain (OpenSpec.upto bitsWiresSpec)) bitsWiresUptoCard

/-- THE SECOND FORM's CARD OF 'tramwaylaw01.BitsNumbers'. -/
def bitsNumbersUptoCard : Claim7 := { stood := { row := bitsNumbersUptoRow, standIns := [], harness := (true, "cecebe12bfc4c5c953544541e71e0dcdea0c46573c9059ae46d71ba04ef7fa88"), looks := true }, kinds := [], alts := [], laidByText := true, laidKinds := [.data, .data, .data, .data, .sentinel, .sentinel, .pinned], laidTests := true, laidLooks := .later }
def BitsNumbersUptoCardSaid : Prop := Claim7.holds Tryd.pinned (.plain (OpenSpec.upto bitsNumbersSpec)) bitsNumbersUptoCard

/-- THE SECOND FORM's CARD OF 'tramwaylaw01.BitsFive'. -/
def bitsFiveUptoCard : Claim7 := { stood := { row := bitsFiveUptoRow, standIns := [], harness := (true, "cecebe12bfc4c5c953544541e71e0dcdea0c46573c9059ae46d71ba04ef7fa88"), looks := true }, kinds := [], alts := [], laidByText := true, laidKinds := [.data, .data, .data, .data, .sentinel, .sentinel, .pinned], laidTests := true, laidLooks := .later }
def BitsFiveUptoCardSaid : Prop := Claim7.holds Tryd.pinned (.plain (OpenSpec.upto bitsFiveSpec)) bitsFiveUptoCard

/-- THE SECOND FORM's CARD OF 'tramwaylaw01.BitsBursts'. -/
def bitsBurstsUptoCard : Claim7 := { stood := { row := bitsBurstsUptoRow, standIns := [], harness := (true, "cecebe12bfc4c5c953544541e71e0dcdea0c46573c9059ae46d71ba04ef7fa88"), looks := true }, kinds := [], alts := [], laidByText := true, laidKinds := [.data, .data, .data, .data, .sentinel, .sentinel, .pinned], laidTests := true, laidLooks := .later }
def BitsBurstsUptoCardSaid : Prop := Claim7.holds Tryd.pinned (.plain (OpenSpec.upto bitsBurstsSpec)) bitsBurstsUptoCard
end Rows
end Go.Proofs.YtijnjklofdmelaaDoor
