/-
  No cell of these rows narrows 'for every input' (looked for: loops, veiled, ifaces, maps, wideKeys, modest, calm, conditions, laid).
  DERIVED. THE GIVEN ROWS OF THIS SEAT. 4 by the template 'for every input the law returns true; each argument reads behind the call as it read before'; 0 by the template 'total and deterministic' (their statements: YtneicohblmjakaaTotals.lean).
  GIVEN WITH THE SEED: the statements are not yours to turn. If you find one false, say at which input.
  Laid BY PROGRAM, IN A SANDBOX (cutbox-rows.mjs): the forced cells as the released guide's own fill.sh prints them over the translation 86c15da0719e875f… (all of the seat's roots in one cut). By AI agents, Wed Nov 11 2026. No macro, syntax, notation, axiom, sorry.
-/
import Derived.Test.YtneicohblmjakaaChecked
import GoSem.Claim
import GoSem.ClaimJoined
import GoSem.ClaimMapViews
import Derived.JoinedTies
import Derived.KernelRfl
namespace Go.Proofs.Ytneicohblmjakaa
/- THE CELL 'sum', in the pinned program and in every row, IS THE sha256 OF THE DUMP (.gsa) THAT YtneicohblmjakaaProg.lean LOADS. Nothing in Lean hashes anything: it is a label: what it is worth is what the hold of that sum in a sandbox is worth. -/
noncomputable def Try.pinned : Pinned := { name := "ytneicohblmjakaa", sum := "86c15da0719e875f6d2bb7e44f7f2985dd2661e70bbf61ea6625d330075b9dc2", checked := Try.checked }
namespace Rows
def none {H : Type} : Left H := { results := [], args := [] }

/-- 'tramwaylaw19.LssOne': WHATEVER THE INPUT: true; the input reads as it did. -/
def lssOneSpec : ChangeSpec := { name := "lssOne", fn := fun _ => fun
  | [d1, d2] => { results := [.lit (.bool true)], args := [d1, d2] }
  | _ => none }
def lssOneRow : OpenClaim := { program := "ytneicohblmjakaa", sum := "86c15da0719e875f6d2bb7e44f7f2985dd2661e70bbf61ea6625d330075b9dc2", func := "tramway/tramwaylaw19.LssOne", spec := "lssOne", apart := false }
def LssOneSaid : Prop := lssOneRow.holds Try.pinned (OpenSpec.ofChange lssOneSpec)

/-- ITS FALSE NEIGHBOUR: 'it returns false'. Refute it at one input. -/
def lssOneWrong : ChangeSpec := { name := "lssOne", fn := fun _ => fun
  | [d1, d2] => { results := [.lit (.bool false)], args := [d1, d2] }
  | _ => none }
def LssOneWrongFalsely : Prop := lssOneRow.holds Try.pinned (OpenSpec.ofChange lssOneWrong)

/-- 'tramwaylaw19.LssWaits': WHATEVER THE INPUT: true; the input reads as it did. -/
def lssWaitsSpec : ChangeSpec := { name := "lssWaits", fn := fun _ => fun
  | [d1, d2, d3] => { results := [.lit (.bool true)], args := [d1, d2, d3] }
  | _ => none }
def lssWaitsRow : OpenClaim := { program := "ytneicohblmjakaa", sum := "86c15da0719e875f6d2bb7e44f7f2985dd2661e70bbf61ea6625d330075b9dc2", func := "tramway/tramwaylaw19.LssWaits", spec := "lssWaits", apart := false }
def LssWaitsSaid : Prop := lssWaitsRow.holds Try.pinned (OpenSpec.ofChange lssWaitsSpec)

/-- ITS FALSE NEIGHBOUR: 'it returns false'. Refute it at one input. -/
def lssWaitsWrong : ChangeSpec := { name := "lssWaits", fn := fun _ => fun
  | [d1, d2, d3] => { results := [.lit (.bool false)], args := [d1, d2, d3] }
  | _ => none }
def LssWaitsWrongFalsely : Prop := lssWaitsRow.holds Try.pinned (OpenSpec.ofChange lssWaitsWrong)

/-- 'tramwaylaw19.LssNumbers': WHATEVER THE INPUT: true; the input reads as it did. -/
def lssNumbersSpec : ChangeSpec := { name := "lssNumbers", fn := fun _ => fun
  | [d1, d2, d3] => { results := [.lit (.bool true)], args := [d1, d2, d3] }
  | _ => none }
def lssNumbersRow : OpenClaim := { program := "ytneicohblmjakaa", sum := "86c15da0719e875f6d2bb7e44f7f2985dd2661e70bbf61ea6625d330075b9dc2", func := "tramway/tramwaylaw19.LssNumbers", spec := "lssNumbers", apart := false }
def LssNumbersSaid : Prop := lssNumbersRow.holds Try.pinned (OpenSpec.ofChange lssNumbersSpec)

/-- ITS FALSE NEIGHBOUR: 'it returns false'. Refute it at one input. -/
def lssNumbersWrong : ChangeSpec := { name := "lssNumbers", fn := fun _ => fun
  | [d1, d2, d3] => { results := [.lit (.bool false)], args := [d1, d2, d3] }
  | _ => none }
def LssNumbersWrongFalsely : Prop := lssNumbersRow.holds Try.pinned (OpenSpec.ofChange lssNumbersWrong)

/-- 'tramwaylaw19.LssStores': WHATEVER THE INPUT: true; the input reads as it did. -/
def lssStoresSpec : ChangeSpec := { name := "lssStores", fn := fun _ => fun
  | [d1, d2, d3] => { results := [.lit (.bool true)], args := [d1, d2, d3] }
  | _ => none }
def lssStoresRow : OpenClaim := { program := "ytneicohblmjakaa", sum := "86c15da0719e875f6d2bb7e44f7f2985dd2661e70bbf61ea6625d330075b9dc2", func := "tramway/tramwaylaw19.LssStores", spec := "lssStores", apart := false }
def LssStoresSaid : Prop := lssStoresRow.holds Try.pinned (OpenSpec.ofChange lssStoresSpec)

/-- ITS FALSE NEIGHBOUR: 'it returns false'. Refute it at one input. -/
def lssStoresWrong : ChangeSpec := { name := "lssStores", fn := fun _ => fun
  | [d1, d2, d3] => { results := [.lit (.bool false)], args := [d1, d2, d3] }
  | _ => none }
def LssStoresWrongFalsely : Prop := lssStoresRow.holds Try.pinned (OpenSpec.ofChange lssStoresWrong)

/- THE SECOND FORM. 'bulk': how many values and letters a reading holds, each counted each time it is reached (what is shared counts as often as it is met; a slice's spare places count too). A statement '..UptoSaid' is the law's where the arguments, and the package variables that the reading takes, are together of bulk at most 1048576: NARROWER than '..Said'. Prove '..Said' where nothing that the law and all that it calls make is longer than what came in: it says more and counts as full. Else prove '..UptoSaid'. A law counts once. -/
mutual
def uptoBulk {H : Type} : DataW H → Nat
  | .lit (.string bytes) => bytes.length + 1
  | .lit _ => 1
  | .nil => 1
  | .ptr d => uptoBulk d + 1
  | .slice elems spare => uptoBulkAll elems + uptoBulkAll spare + 1
  | .agg parts => uptoBulkAll parts + 1
  | .iface _ d => uptoBulk d + 1
  | .map entries => uptoBulkEntries entries + 1
  | .held _ => 1
def uptoBulkAll {H : Type} : List (DataW H) → Nat
  | [] => 0
  | d :: r => uptoBulk d + uptoBulkAll r
def uptoBulkEntries {H : Type} : List (Lit × DataW H) → Nat
  | [] => 0
  | x :: r => uptoBulkEntry x + uptoBulkEntries r
def uptoBulkEntry {H : Type} : Lit × DataW H → Nat
  | (.string bytes, d) => bytes.length + uptoBulk d + 1
  | (_, d) => uptoBulk d + 1
 end
def uptoSmall : (H : Type) → List (DataW H) → Bool := fun _ ds => decide (uptoBulkAll ds ≤ 1048576)
def OpenSpec.upto (s : _root_.Go.ChangeSpec) : _root_.Go.OpenSpec := { _root_.Go.OpenSpec.ofChange s with cond := some uptoSmall }

/-- 'tramwaylaw19.LssOne', WHERE WHAT IT READS IS OF BULK AT MOST 1048576: true; the input reads as it did. -/
def lssOneUptoRow : OpenClaim := { program := "ytneicohblmjakaa", sum := "86c15da0719e875f6d2bb7e44f7f2985dd2661e70bbf61ea6625d330075b9dc2", func := "tramway/tramwaylaw19.LssOne", spec := "lssOne", apart := false, narrowed := true }
def LssOneUptoSaid : Prop := lssOneUptoRow.holds Try.pinned (OpenSpec.upto lssOneSpec)

/-- 'tramwaylaw19.LssWaits', WHERE WHAT IT READS IS OF BULK AT MOST 1048576: true; the input reads as it did. -/
def lssWaitsUptoRow : OpenClaim := { program := "ytneicohblmjakaa", sum := "86c15da0719e875f6d2bb7e44f7f2985dd2661e70bbf61ea6625d330075b9dc2", func := "tramway/tramwaylaw19.LssWaits", spec := "lssWaits", apart := false, narrowed := true }
def LssWaitsUptoSaid : Prop := lssWaitsUptoRow.holds Try.pinned (OpenSpec.upto lssWaitsSpec)

/-- 'tramwaylaw19.LssNumbers', WHERE WHAT IT READS IS OF BULK AT MOST 1048576: true; the input reads as it did. -/
def lssNumbersUptoRow : OpenClaim := { program := "ytneicohblmjakaa", sum := "86c15da0719e875f6d2bb7e44f7f2985dd2661e70bbf61ea6625d330075b9dc2", func := "tramway/tramwaylaw19.LssNumbers", spec := "lssNumbers", apart := false, narrowed := true }
def LssNumbersUptoSaid : Prop := lssNumbersUptoRow.holds Try.pinned (OpenSpec.upto lssNumbersSpec)

/-- 'tramwaylaw19.LssStores', WHERE WHAT IT READS IS OF BULK AT MOST 1048576: true; the input reads as it did. -/
def lssStoresUptoRow : OpenClaim := { program := "ytneicohblmjakaa", sum := "86c15da0719e875f6d2bb7e44f7f2985dd2661e70bbf61ea6625d330075b9dc2", func := "tramway/tramwaylaw19.LssStores", spec := "lssStores", apart := false, narrowed := true }
def LssStoresUptoSaid : Prop := lssStoresUptoRow.holds Try.pinned (OpenSpec.upto lssStoresSpec)

end Rows
end Go.Proofs.Ytneicohblmjakaa
