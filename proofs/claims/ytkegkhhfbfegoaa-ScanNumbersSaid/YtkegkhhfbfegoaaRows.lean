/-
  No cell of these rows narrows 'for every input' (looked for: loops, veiled, ifaces, maps, wideKeys, modest, calm, conditions, laid).
  DERIVED. THE GIVEN ROWS OF THIS SEAT. 5 by the template 'for every input the law returns true; each argument reads behind the call as it read before'; 0 by the template 'total and deterministic' (their statements: YtkegkhhfbfegoaaTotals.lean).
  GIVEN WITH THE SEED: the statements are not yours to turn. If you find one false, say at which input.
  Laid BY PROGRAM, IN A SANDBOX (cutbox-rows.mjs): the forced cells as the released guide's own fill.sh prints them over the translation 2e7368aa47bdbf65… (all of the seat's roots in one cut). By AI agents, Wed Nov 11 2026. No macro, syntax, notation, axiom, sorry.
-/
import Derived.Test.YtkegkhhfbfegoaaChecked
import GoSem.Claim
import GoSem.ClaimJoined
import GoSem.ClaimMapViews
import Derived.JoinedTies
import Derived.KernelRfl
namespace Go.Proofs.Ytkegkhhfbfegoaa
/- THE CELL 'sum', in the pinned program and in every row, IS THE sha256 OF THE DUMP (.gsa) THAT YtkegkhhfbfegoaaProg.lean LOADS. Nothing in Lean hashes anything: it is a label: what it is worth is what the hold of that sum in a sandbox is worth. -/
noncomputable def Try.pinned : Pinned := { name := "ytkegkhhfbfegoaa", sum := "2e7368aa47bdbf652137ec84ca24d836e8425bee3227c2b20553d7372a872087", checked := Try.checked }
namespace Rows
def none {H : Type} : Left H := { results := [], args := [] }

/-- 'tramwaylaw20.ScanAll': WHATEVER THE INPUT: true; the input reads as it did. -/
def scanAllSpec : ChangeSpec := { name := "scanAll", fn := fun _ => fun
  | [d1, d2] => { results := [.lit (.bool true)], args := [d1, d2] }
  | _ => none }
def scanAllRow : OpenClaim := { program := "ytkegkhhfbfegoaa", sum := "2e7368aa47bdbf652137ec84ca24d836e8425bee3227c2b20553d7372a872087", func := "tramway/tramwaylaw20.ScanAll", spec := "scanAll", apart := false }
def ScanAllSaid : Prop := scanAllRow.holds Try.pinned (OpenSpec.ofChange scanAllSpec)

/-- ITS FALSE NEIGHBOUR: 'it returns false'. Refute it at one input. -/
def scanAllWrong : ChangeSpec := { name := "scanAll", fn := fun _ => fun
  | [d1, d2] => { results := [.lit (.bool false)], args := [d1, d2] }
  | _ => none }
def ScanAllWrongFalsely : Prop := scanAllRow.holds Try.pinned (OpenSpec.ofChange scanAllWrong)

/-- 'tramwaylaw20.ScanOrder': WHATEVER THE INPUT: true; the input reads as it did. -/
def scanOrderSpec : ChangeSpec := { name := "scanOrder", fn := fun _ => fun
  | [d1, d2] => { results := [.lit (.bool true)], args := [d1, d2] }
  | _ => none }
def scanOrderRow : OpenClaim := { program := "ytkegkhhfbfegoaa", sum := "2e7368aa47bdbf652137ec84ca24d836e8425bee3227c2b20553d7372a872087", func := "tramway/tramwaylaw20.ScanOrder", spec := "scanOrder", apart := false }
def ScanOrderSaid : Prop := scanOrderRow.holds Try.pinned (OpenSpec.ofChange scanOrderSpec)

/-- ITS FALSE NEIGHBOUR: 'it returns false'. Refute it at one input. -/
def scanOrderWrong : ChangeSpec := { name := "scanOrder", fn := fun _ => fun
  | [d1, d2] => { results := [.lit (.bool false)], args := [d1, d2] }
  | _ => none }
def ScanOrderWrongFalsely : Prop := scanOrderRow.holds Try.pinned (OpenSpec.ofChange scanOrderWrong)

/-- 'tramwaylaw20.ScanNumbers': WHATEVER THE INPUT: true; the input reads as it did. -/
def scanNumbersSpec : ChangeSpec := { name := "scanNumbers", fn := fun _ => fun
  | [d1, d2] => { results := [.lit (.bool true)], args := [d1, d2] }
  | _ => none }
def scanNumbersRow : OpenClaim := { program := "ytkegkhhfbfegoaa", sum := "2e7368aa47bdbf652137ec84ca24d836e8425bee3227c2b20553d7372a872087", func := "tramway/tramwaylaw20.ScanNumbers", spec := "scanNumbers", apart := false }
def ScanNumbersSaid : Prop := scanNumbersRow.holds Try.pinned (OpenSpec.ofChange scanNumbersSpec)

/-- ITS FALSE NEIGHBOUR: 'it returns false'. Refute it at one input. -/
def scanNumbersWrong : ChangeSpec := { name := "scanNumbers", fn := fun _ => fun
  | [d1, d2] => { results := [.lit (.bool false)], args := [d1, d2] }
  | _ => none }
def ScanNumbersWrongFalsely : Prop := scanNumbersRow.holds Try.pinned (OpenSpec.ofChange scanNumbersWrong)

/-- 'tramwaylaw20.ScanAsks': WHATEVER THE INPUT: true; the input reads as it did. -/
def scanAsksSpec : ChangeSpec := { name := "scanAsks", fn := fun _ => fun
  | [d1, d2] => { results := [.lit (.bool true)], args := [d1, d2] }
  | _ => none }
def scanAsksRow : OpenClaim := { program := "ytkegkhhfbfegoaa", sum := "2e7368aa47bdbf652137ec84ca24d836e8425bee3227c2b20553d7372a872087", func := "tramway/tramwaylaw20.ScanAsks", spec := "scanAsks", apart := false }
def ScanAsksSaid : Prop := scanAsksRow.holds Try.pinned (OpenSpec.ofChange scanAsksSpec)

/-- ITS FALSE NEIGHBOUR: 'it returns false'. Refute it at one input. -/
def scanAsksWrong : ChangeSpec := { name := "scanAsks", fn := fun _ => fun
  | [d1, d2] => { results := [.lit (.bool false)], args := [d1, d2] }
  | _ => none }
def ScanAsksWrongFalsely : Prop := scanAsksRow.holds Try.pinned (OpenSpec.ofChange scanAsksWrong)

/-- 'tramwaylaw20.ScanLeast': WHATEVER THE INPUT: true; the input reads as it did. -/
def scanLeastSpec : ChangeSpec := { name := "scanLeast", fn := fun _ => fun
  | [d] => { results := [.lit (.bool true)], args := [d] }
  | _ => none }
def scanLeastRow : OpenClaim := { program := "ytkegkhhfbfegoaa", sum := "2e7368aa47bdbf652137ec84ca24d836e8425bee3227c2b20553d7372a872087", func := "tramway/tramwaylaw20.ScanLeast", spec := "scanLeast", apart := false }
def ScanLeastSaid : Prop := scanLeastRow.holds Try.pinned (OpenSpec.ofChange scanLeastSpec)

/-- ITS FALSE NEIGHBOUR: 'it returns false'. Refute it at one input. -/
def scanLeastWrong : ChangeSpec := { name := "scanLeast", fn := fun _ => fun
  | [d] => { results := [.lit (.bool false)], args := [d] }
  | _ => none }
def ScanLeastWrongFalsely : Prop := scanLeastRow.holds Try.pinned (OpenSpec.ofChange scanLeastWrong)

/- THE SECOND FORM. 'bulk': how many values and letters a reading holds, each counted each time it is reached (what is shared counts as often as it is met; a slice's spare places count too). A statement '..UptoSaid' is the law's where the arguments, and the package variables that the reading takes, are together of bulk at most 1048576: NARROWER than '..Said'. Prove '..Said' where nothing that the law and all that it calls make is longer than what came in: it says more and counts as full. Else prove '..UptoSaid'. A law counts once. -/
mutual
def uptoBulk {H : Type} : DataW H → Nat
  | .lit (.string bytes) => bytes.length + 1
  | .lit _ => 1
  | .nil => 1
  | .ptr d => uptoBulk d + 1
  | .slice elems spare => uptoBulkAll elems + uptoBulkAll spare + 1
  | .agg parts => uptoBulkAll parts + 1
  | .iface _ d => uptoBulk d + 1
  | .map entries => uptoBulkEntries entries + 1
  | .held _ => 1
def uptoBulkAll {H : Type} : List (DataW H) → Nat
  | [] => 0
  | d :: r => uptoBulk d + uptoBulkAll r
def uptoBulkEntries {H : Type} : List (Lit × DataW H) → Nat
  | [] => 0
  | x :: r => uptoBulkEntry x + uptoBulkEntries r
def uptoBulkEntry {H : Type} : Lit × DataW H → Nat
  | (.string bytes, d) => bytes.length + uptoBulk d + 1
  | (_, d) => uptoBulk d + 1
 end
def uptoSmall : (H : Type) → List (DataW H) → Bool := fun _ ds => decide (uptoBulkAll ds ≤ 1048576)
def OpenSpec.upto (s : _root_.Go.ChangeSpec) : _root_.Go.OpenSpec := { _root_.Go.OpenSpec.ofChange s with cond := some uptoSmall }

/-- 'tramwaylaw20.ScanAll', WHERE WHAT IT READS IS OF BULK AT MOST 1048576: true; the input reads as it did. -/
def scanAllUptoRow : OpenClaim := { program := "ytkegkhhfbfegoaa", sum := "2e7368aa47bdbf652137ec84ca24d836e8425bee3227c2b20553d7372a872087", func := "tramway/tramwaylaw20.ScanAll", spec := "scanAll", apart := false, narrowed := true }
def ScanAllUptoSaid : Prop := scanAllUptoRow.holds Try.pinned (OpenSpec.upto scanAllSpec)

/-- 'tramwaylaw20.ScanOrder', WHERE WHAT IT READS IS OF BULK AT MOST 1048576: true; the input reads as it did. -/
def scanOrderUptoRow : OpenClaim := { program := "ytkegkhhfbfegoaa", sum := "2e7368aa47bdbf652137ec84ca24d836e8425bee3227c2b20553d7372a872087", func := "tramway/tramwaylaw20.ScanOrder", spec := "scanOrder", apart := false, narrowed := true }
def ScanOrderUptoSaid : Prop := scanOrderUptoRow.holds Try.pinned (OpenSpec.upto scanOrderSpec)

/-- 'tramwaylaw20.ScanNumbers', WHERE WHAT IT READS IS OF BULK AT MOST 1048576: true; the input reads as it did. -/
def scanNumbersUptoRow : OpenClaim := { program := "ytkegkhhfbfegoaa", sum := "2e7368aa47bdbf652137ec84ca24d836e8425bee3227c2b20553d7372a872087", func := "tramway/tramwaylaw20.ScanNumbers", spec := "scanNumbers", apart := false, narrowed := true }
def ScanNumbersUptoSaid : Prop := scanNumbersUptoRow.holds Try.pinned (OpenSpec.upto scanNumbersSpec)

/-- 'tramwaylaw20.ScanAsks', WHERE WHAT IT READS IS OF BULK AT MOST 1048576: true; the input reads as it did. -/
def scanAsksUptoRow : OpenClaim := { program := "ytkegkhhfbfegoaa", sum := "2e7368aa47bdbf652137ec84ca24d836e8425bee3227c2b20553d7372a872087", func := "tramway/tramwaylaw20.ScanAsks", spec := "scanAsks", apart := false, narrowed := true }
def ScanAsksUptoSaid : Prop := scanAsksUptoRow.holds Try.pinned (OpenSpec.upto scanAsksSpec)

/-- 'tramwaylaw20.ScanLeast', WHERE WHAT IT READS IS OF BULK AT MOST 1048576: true; the input reads as it did. -/
def scanLeastUptoRow : OpenClaim := { program := "ytkegkhhfbfegoaa", sum := "2e7368aa47bdbf652137ec84ca24d836e8425bee3227c2b20553d7372a872087", func := "tramway/tramwaylaw20.ScanLeast", spec := "scanLeast", apart := false, narrowed := true }
def ScanLeastUptoSaid : Prop := scanLeastUptoRow.holds Try.pinned (OpenSpec.upto scanLeastSpec)

end Rows
end Go.Proofs.Ytkegkhhfbfegoaa
