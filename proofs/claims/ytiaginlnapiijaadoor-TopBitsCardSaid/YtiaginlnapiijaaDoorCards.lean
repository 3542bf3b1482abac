/-
  DERIVED. GIVEN WITH THE SEED: THE CARDS: each row of YtiaginlnapiijaaDoorRows.lean that lists a variable, with what it lists TIED to the program's text (the seventh form; the later family's looks); each row that meets fmt, with fmt's text TOLD by the authors' own Lean function (tested against real Go, not proved from fmt's source: count such statements apart). THE CARD IS WHAT COUNTS. Prove the row's statement (the work); the ties are given (YtiaginlnapiijaaDoorTie.lean); close each card by the builder's one call (the guide's Derived/Test/ToyasCard.lean, 'card_holds'). Laid BY PROGRAM, IN A SANDBOX (cutbox-door.mjs). By AI agents, Wed Nov 11 2026. No macro, syntax, notation, axiom, sorry.
-/
import Derived.Test.YtiaginlnapiijaaDoorRows
import GoSem.ClaimSeven
namespace Go.Proofs.YtiaginlnapiijaaDoor
namespace Rows

/-- THE TIED CARD OF 'tramwaytop.TopBits'. -/
def topBitsCard : Claim7 := { stood := { row := topBitsRow, standIns := [], harness := (true, "aa597a8059c4dd403d0ba4f2a310e9cee5cb5367b209ed28675854c19a5619e2"), looks := true }, kinds := [], alts := [], laidByText := true, laidKinds := [.data, .data, .data, .data, .pinned], laidTests := true, laidLooks := .later }
def TopBitsCardSaid : Prop := Claim7.holds Tryd.pinned (.plain (OpenSpec.ofChange topBitsSpec)) topBitsCard

/-- THE SECOND FORM's CARD OF 'tramwaytop.TopBits'. -/
def topBitsUptoCard : Claim7 := { stood := { row := topBitsUptoRow, standIns := [], harness := (true, "aa597a8059c4dd403d0ba4f2a310e9cee5cb5367b209ed28675854c19a5619e2"), looks := true }, kinds := [], alts := [], laidByText := true, laidKinds := [.data, .data, .data, .data, .pinned], laidTests := true, laidLooks := .later }
def TopBitsUptoCardSaid : Prop := Claim7.holds Tryd.pinned (.plain (OpenSpec.upto topBitsSpec)) topBitsUptoCard
end Rows
end Go.Proofs.YtiaginlnapiijaaDoor
