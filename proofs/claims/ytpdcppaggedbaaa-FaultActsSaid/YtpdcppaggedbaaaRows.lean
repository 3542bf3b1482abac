/-
  No cell of these rows narrows 'for every input' (looked for: loops, veiled, ifaces, maps, wideKeys, modest, calm, conditions, laid).
  DERIVED. THE GIVEN ROWS OF THIS SEAT. 5 by the template 'for every input the law returns true; each argument reads behind the call as it read before'; 0 by the template 'total and deterministic' (their statements: YtpdcppaggedbaaaTotals.lean).
  GIVEN WITH THE SEED: the statements are not yours to turn. If you find one false, say at which input.
  Laid BY PROGRAM, IN A SANDBOX (cutbox-rows.mjs): the forced cells as the released guide's own fill.sh prints them over the translation 56152b74f135742f… (all of the seat's roots in one cut). By AI agents, Wed Nov 11 2026. No macro, syntax, notation, axiom, sorry.
-/
import Derived.Test.YtpdcppaggedbaaaChecked
import GoSem.Claim
import GoSem.ClaimJoined
import GoSem.ClaimMapViews
import Derived.JoinedTies
import Derived.KernelRfl
namespace Go.Proofs.Ytpdcppaggedbaaa
/- THE CELL 'sum', in the pinned program and in every row, IS THE sha256 OF THE DUMP (.gsa) THAT YtpdcppaggedbaaaProg.lean LOADS. Nothing in Lean hashes anything: it is a label: what it is worth is what the hold of that sum in a sandbox is worth. -/
noncomputable def Try.pinned : Pinned := { name := "ytpdcppaggedbaaa", sum := "56152b74f135742f00578d2a53a8a4b84efad0e8deec420bf993efcb45090b6b", checked := Try.checked }
namespace Rows
def none {H : Type} : Left H := { results := [], args := [] }

/-- 'tramwaylaw03.FaultCalm': WHATEVER THE INPUT: true; the input reads as it did. -/
def faultCalmSpec : ChangeSpec := { name := "faultCalm", fn := fun _ => fun
  | [d] => { results := [.lit (.bool true)], args := [d] }
  | _ => none }
def faultCalmRow : OpenClaim := { program := "ytpdcppaggedbaaa", sum := "56152b74f135742f00578d2a53a8a4b84efad0e8deec420bf993efcb45090b6b", func := "tramway/tramwaylaw03.FaultCalm", spec := "faultCalm", apart := false }
def FaultCalmSaid : Prop := faultCalmRow.holds Try.pinned (OpenSpec.ofChange faultCalmSpec)

/-- ITS FALSE NEIGHBOUR: 'it returns false'. Refute it at one input. -/
def faultCalmWrong : ChangeSpec := { name := "faultCalm", fn := fun _ => fun
  | [d] => { results := [.lit (.bool false)], args := [d] }
  | _ => none }
def FaultCalmWrongFalsely : Prop := faultCalmRow.holds Try.pinned (OpenSpec.ofChange faultCalmWrong)

/-- 'tramwaylaw03.FaultOff': WHATEVER THE INPUT: true; the input reads as it did. -/
def faultOffSpec : ChangeSpec := { name := "faultOff", fn := fun _ => fun
  | [d1, d2] => { results := [.lit (.bool true)], args := [d1, d2] }
  | _ => none }
def faultOffRow : OpenClaim := { program := "ytpdcppaggedbaaa", sum := "56152b74f135742f00578d2a53a8a4b84efad0e8deec420bf993efcb45090b6b", func := "tramway/tramwaylaw03.FaultOff", spec := "faultOff", apart := false }
def FaultOffSaid : Prop := faultOffRow.holds Try.pinned (OpenSpec.ofChange faultOffSpec)

/-- ITS FALSE NEIGHBOUR: 'it returns false'. Refute it at one input. -/
def faultOffWrong : ChangeSpec := { name := "faultOff", fn := fun _ => fun
  | [d1, d2] => { results := [.lit (.bool false)], args := [d1, d2] }
  | _ => none }
def FaultOffWrongFalsely : Prop := faultOffRow.holds Try.pinned (OpenSpec.ofChange faultOffWrong)

/-- 'tramwaylaw03.FaultApart': WHATEVER THE INPUT: true; the input reads as it did. -/
def faultApartSpec : ChangeSpec := { name := "faultApart", fn := fun _ => fun
  | [d] => { results := [.lit (.bool true)], args := [d] }
  | _ => none }
def faultApartRow : OpenClaim := { program := "ytpdcppaggedbaaa", sum := "56152b74f135742f00578d2a53a8a4b84efad0e8deec420bf993efcb45090b6b", func := "tramway/tramwaylaw03.FaultApart", spec := "faultApart", apart := false }
def FaultApartSaid : Prop := faultApartRow.holds Try.pinned (OpenSpec.ofChange faultApartSpec)

/-- ITS FALSE NEIGHBOUR: 'it returns false'. Refute it at one input. -/
def faultApartWrong : ChangeSpec := { name := "faultApart", fn := fun _ => fun
  | [d] => { results := [.lit (.bool false)], args := [d] }
  | _ => none }
def FaultApartWrongFalsely : Prop := faultApartRow.holds Try.pinned (OpenSpec.ofChange faultApartWrong)

/-- 'tramwaylaw03.FaultActs': WHATEVER THE INPUT: true; the input reads as it did. -/
def faultActsSpec : ChangeSpec := { name := "faultActs", fn := fun _ => fun
  | [d] => { results := [.lit (.bool true)], args := [d] }
  | _ => none }
def faultActsRow : OpenClaim := { program := "ytpdcppaggedbaaa", sum := "56152b74f135742f00578d2a53a8a4b84efad0e8deec420bf993efcb45090b6b", func := "tramway/tramwaylaw03.FaultActs", spec := "faultActs", apart := false }
def FaultActsSaid : Prop := faultActsRow.holds Try.pinned (OpenSpec.ofChange faultActsSpec)

/-- ITS FALSE NEIGHBOUR: 'it returns false'. Refute it at one input. -/
def faultActsWrong : ChangeSpec := { name := "faultActs", fn := fun _ => fun
  | [d] => { results := [.lit (.bool false)], args := [d] }
  | _ => none }
def FaultActsWrongFalsely : Prop := faultActsRow.holds Try.pinned (OpenSpec.ofChange faultActsWrong)

/-- 'tramwaylaw03.FaultReset': WHATEVER THE INPUT: true; the input reads as it did. -/
def faultResetSpec : ChangeSpec := { name := "faultReset", fn := fun _ => fun
  | [d1, d2] => { results := [.lit (.bool true)], args := [d1, d2] }
  | _ => none }
def faultResetRow : OpenClaim := { program := "ytpdcppaggedbaaa", sum := "56152b74f135742f00578d2a53a8a4b84efad0e8deec420bf993efcb45090b6b", func := "tramway/tramwaylaw03.FaultReset", spec := "faultReset", apart := false }
def FaultResetSaid : Prop := faultResetRow.holds Try.pinned (OpenSpec.ofChange faultResetSpec)

/-- ITS FALSE NEIGHBOUR: 'it returns false'. Refute it at one input. -/
def faultResetWrong : ChangeSpec := { name := "faultReset", fn := fun _ => fun
  | [d1, d2] => { results := [.lit (.bool false)], args := [d1, d2] }
  | _ => none }
def FaultResetWrongFalsely : Prop := faultResetRow.holds Try.pinned (OpenSpec.ofChange faultResetWrong)

/- THE SECOND FORM. 'bulk': how many values and letters a reading holds, each counted each time it is reached (what is shared counts as often as it is met; a slice's spare places count too). A statement '..UptoSaid' is the law's where the arguments, and the package variables that the reading takes, are together of bulk at most 1048576: NARROWER than '..Said'. Prove '..Said' where nothing that the law and all that it calls make is longer than what came in: it says more and counts as full. Else prove '..UptoSaid'. A law counts once. -/
mutual
def uptoBulk {H : Type} : DataW H → Nat
  | .lit (.string bytes) => bytes.length + 1
  | .lit _ => 1
  | .nil => 1
  | .ptr d => uptoBulk d + 1
  | .slice elems spare => uptoBulkAll elems + uptoBulkAll spare + 1
  | .agg parts => uptoBulkAll parts + 1
  | .iface _ d => uptoBulk d + 1
  | .map entries => uptoBulkEntries entries + 1
  | .held _ => 1
def uptoBulkAll {H : Type} : List (DataW H) → Nat
  | [] => 0
  | d :: r => uptoBulk d + uptoBulkAll r
def uptoBulkEntries {H : Type} : List (Lit × DataW H) → Nat
  | [] => 0
  | x :: r => uptoBulkEntry x + uptoBulkEntries r
def uptoBulkEntry {H : Type} : Lit × DataW H → Nat
  | (.string bytes, d) => bytes.length + uptoBulk d + 1
  | (_, d) => uptoBulk d + 1
 end
def uptoSmall : (H : Type) → List (DataW H) → Bool := fun _ ds => decide (uptoBulkAll ds ≤ 1048576)
def OpenSpec.upto (s : _root_.Go.ChangeSpec) : _root_.Go.OpenSpec := { _root_.Go.OpenSpec.ofChange s with cond := some uptoSmall }

/-- 'tramwaylaw03.FaultCalm', WHERE WHAT IT READS IS OF BULK AT MOST 1048576: true; the input reads as it did. -/
def faultCalmUptoRow : OpenClaim := { program := "ytpdcppaggedbaaa", sum := "56152b74f135742f00578d2a53a8a4b84efad0e8deec420bf993efcb45090b6b", func := "tramway/tramwaylaw03.FaultCalm", spec := "faultCalm", apart := false, narrowed := true }
def FaultCalmUptoSaid : Prop := faultCalmUptoRow.holds Try.pinned (OpenSpec.upto faultCalmSpec)

/-- 'tramwaylaw03.FaultOff', WHERE WHAT IT READS IS OF BULK AT MOST 1048576: true; the input reads as it did. -/
def faultOffUptoRow : OpenClaim := { program := "ytpdcppaggedbaaa", sum := "56152b74f135742f00578d2a53a8a4b84efad0e8deec420bf993efcb45090b6b", func := "tramway/tramwaylaw03.FaultOff", spec := "faultOff", apart := false, narrowed := true }
def FaultOffUptoSaid : Prop := faultOffUptoRow.holds Try.pinned (OpenSpec.upto faultOffSpec)

/-- 'tramwaylaw03.FaultApart', WHERE WHAT IT READS IS OF BULK AT MOST 1048576: true; the input reads as it did. -/
def faultApartUptoRow : OpenClaim := { program := "ytpdcppaggedbaaa", sum := "56152b74f135742f00578d2a53a8a4b84efad0e8deec420bf993efcb45090b6b", func := "tramway/tramwaylaw03.FaultApart", spec := "faultApart", apart := false, narrowed := true }
def FaultApartUptoSaid : Prop := faultApartUptoRow.holds Try.pinned (OpenSpec.upto faultApartSpec)

/-- 'tramwaylaw03.FaultActs', WHERE WHAT IT READS IS OF BULK AT MOST 1048576: true; the input reads as it did. -/
def faultActsUptoRow : OpenClaim := { program := "ytpdcppaggedbaaa", sum := "56152b74f135742f00578d2a53a8a4b84efad0e8deec420bf993efcb45090b6b", func := "tramway/tramwaylaw03.FaultActs", spec := "faultActs", apart := false, narrowed := true }
def FaultActsUptoSaid : Prop := faultActsUptoRow.holds Try.pinned (OpenSpec.upto faultActsSpec)

/-- 'tramwaylaw03.FaultReset', WHERE WHAT IT READS IS OF BULK AT MOST 1048576: true; the input reads as it did. -/
def faultResetUptoRow : OpenClaim := { program := "ytpdcppaggedbaaa", sum := "56152b74f135742f00578d2a53a8a4b84efad0e8deec420bf993efcb45090b6b", func := "tramway/tramwaylaw03.FaultReset", spec := "faultReset", apart := false, narrowed := true }
def FaultResetUptoSaid : Prop := faultResetUptoRow.holds Try.pinned (OpenSpec.upto faultResetSpec)

end Rows
end Go.Proofs.Ytpdcppaggedbaaa
