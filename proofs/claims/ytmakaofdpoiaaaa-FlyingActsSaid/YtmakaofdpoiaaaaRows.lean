/-
  No cell of these rows narrows 'for every input' (looked for: loops, veiled, ifaces, maps, wideKeys, modest, calm, conditions, laid).
  DERIVED. THE GIVEN ROWS OF THIS SEAT. 5 by the template 'for every input the law returns true; each argument reads behind the call as it read before'; 0 by the template 'total and deterministic' (their statements: YtmakaofdpoiaaaaTotals.lean).
  GIVEN WITH THE SEED: the statements are not yours to turn. If you find one false, say at which input.
  Laid BY PROGRAM, IN A SANDBOX (cutbox-rows.mjs): the forced cells as the released guide's own fill.sh prints them over the translation 0eb8370ca62b031b… (all of the seat's roots in one cut). By AI agents, Wed Nov 11 2026. No macro, syntax, notation, axiom, sorry.
-/
import Derived.Test.YtmakaofdpoiaaaaChecked
import GoSem.Claim
import GoSem.ClaimJoined
import GoSem.ClaimMapViews
import Derived.JoinedTies
import Derived.KernelRfl
namespace Go.Proofs.Ytmakaofdpoiaaaa
/- THE CELL 'sum', in the pinned program and in every row, IS THE sha256 OF THE DUMP (.gsa) THAT YtmakaofdpoiaaaaProg.lean LOADS. Nothing in Lean hashes anything: it is a label: what it is worth is what the hold of that sum in a sandbox is worth. -/
noncomputable def Try.pinned : Pinned := { name := "ytmakaofdpoiaaaa", sum := "0eb8370ca62b031b6235f9498ee184a1d22c589ec1539bc279a789251506a73d", checked := Try.checked }
namespace Rows
def none {H : Type} : Left H := { results := [], args := [] }

/-- 'tramwaylaw24.FlyingDead': WHATEVER THE INPUT: true; the input reads as it did. -/
def flyingDeadSpec : ChangeSpec := { name := "flyingDead", fn := fun _ => fun
  | [d1, d2] => { results := [.lit (.bool true)], args := [d1, d2] }
  | _ => none }
def flyingDeadRow : OpenClaim := { program := "ytmakaofdpoiaaaa", sum := "0eb8370ca62b031b6235f9498ee184a1d22c589ec1539bc279a789251506a73d", func := "tramway/tramwaylaw24.FlyingDead", spec := "flyingDead", unfollowed := true, recurses := true, apart := false }
def FlyingDeadSaid : Prop := flyingDeadRow.holds Try.pinned (OpenSpec.ofChange flyingDeadSpec)

/-- ITS FALSE NEIGHBOUR: 'it returns false'. Refute it at one input. -/
def flyingDeadWrong : ChangeSpec := { name := "flyingDead", fn := fun _ => fun
  | [d1, d2] => { results := [.lit (.bool false)], args := [d1, d2] }
  | _ => none }
def FlyingDeadWrongFalsely : Prop := flyingDeadRow.holds Try.pinned (OpenSpec.ofChange flyingDeadWrong)

/-- 'tramwaylaw24.FlyingSlots': WHATEVER THE INPUT: true; the input reads as it did. -/
def flyingSlotsSpec : ChangeSpec := { name := "flyingSlots", fn := fun _ => fun
  | [d] => { results := [.lit (.bool true)], args := [d] }
  | _ => none }
def flyingSlotsRow : OpenClaim := { program := "ytmakaofdpoiaaaa", sum := "0eb8370ca62b031b6235f9498ee184a1d22c589ec1539bc279a789251506a73d", func := "tramway/tramwaylaw24.FlyingSlots", spec := "flyingSlots", unfollowed := true, recurses := true, apart := false }
def FlyingSlotsSaid : Prop := flyingSlotsRow.holds Try.pinned (OpenSpec.ofChange flyingSlotsSpec)

/-- ITS FALSE NEIGHBOUR: 'it returns false'. Refute it at one input. -/
def flyingSlotsWrong : ChangeSpec := { name := "flyingSlots", fn := fun _ => fun
  | [d] => { results := [.lit (.bool false)], args := [d] }
  | _ => none }
def FlyingSlotsWrongFalsely : Prop := flyingSlotsRow.holds Try.pinned (OpenSpec.ofChange flyingSlotsWrong)

/-- 'tramwaylaw24.FlyingFirst': WHATEVER THE INPUT: true; the input reads as it did. -/
def flyingFirstSpec : ChangeSpec := { name := "flyingFirst", fn := fun _ => fun
  | [d] => { results := [.lit (.bool true)], args := [d] }
  | _ => none }
def flyingFirstRow : OpenClaim := { program := "ytmakaofdpoiaaaa", sum := "0eb8370ca62b031b6235f9498ee184a1d22c589ec1539bc279a789251506a73d", func := "tramway/tramwaylaw24.FlyingFirst", spec := "flyingFirst", inPlace := ["math/bits.Add64"], unfollowed := true, recurses := true, apart := false }
def FlyingFirstSaid : Prop := flyingFirstRow.holds Try.pinned (OpenSpec.ofChange flyingFirstSpec)

/-- ITS FALSE NEIGHBOUR: 'it returns false'. Refute it at one input. -/
def flyingFirstWrong : ChangeSpec := { name := "flyingFirst", fn := fun _ => fun
  | [d] => { results := [.lit (.bool false)], args := [d] }
  | _ => none }
def FlyingFirstWrongFalsely : Prop := flyingFirstRow.holds Try.pinned (OpenSpec.ofChange flyingFirstWrong)

/-- 'tramwaylaw24.FlyingGoes': WHATEVER THE INPUT: true; the input reads as it did. -/
def flyingGoesSpec : ChangeSpec := { name := "flyingGoes", fn := fun _ => fun
  | [d1, d2] => { results := [.lit (.bool true)], args := [d1, d2] }
  | _ => none }
def flyingGoesRow : OpenClaim := { program := "ytmakaofdpoiaaaa", sum := "0eb8370ca62b031b6235f9498ee184a1d22c589ec1539bc279a789251506a73d", func := "tramway/tramwaylaw24.FlyingGoes", spec := "flyingGoes", inPlace := ["math/bits.Add64"], unfollowed := true, recurses := true, apart := false }
def FlyingGoesSaid : Prop := flyingGoesRow.holds Try.pinned (OpenSpec.ofChange flyingGoesSpec)

/-- ITS FALSE NEIGHBOUR: 'it returns false'. Refute it at one input. -/
def flyingGoesWrong : ChangeSpec := { name := "flyingGoes", fn := fun _ => fun
  | [d1, d2] => { results := [.lit (.bool false)], args := [d1, d2] }
  | _ => none }
def FlyingGoesWrongFalsely : Prop := flyingGoesRow.holds Try.pinned (OpenSpec.ofChange flyingGoesWrong)

/-- 'tramwaylaw24.FlyingActs': WHATEVER THE INPUT: true; the input reads as it did. -/
def flyingActsSpec : ChangeSpec := { name := "flyingActs", fn := fun _ => fun
  | [d1, d2] => { results := [.lit (.bool true)], args := [d1, d2] }
  | _ => none }
def flyingActsRow : OpenClaim := { program := "ytmakaofdpoiaaaa", sum := "0eb8370ca62b031b6235f9498ee184a1d22c589ec1539bc279a789251506a73d", func := "tramway/tramwaylaw24.FlyingActs", spec := "flyingActs", inPlace := ["math/bits.Add64"], unfollowed := true, recurses := true, apart := false }
def FlyingActsSaid : Prop := flyingActsRow.holds Try.pinned (OpenSpec.ofChange flyingActsSpec)

/-- ITS FALSE NEIGHBOUR: 'it returns false'. Refute it at one input. -/
def flyingActsWrong : ChangeSpec := { name := "flyingActs", fn := fun _ => fun
  | [d1, d2] => { results := [.lit (.bool false)], args := [d1, d2] }
  | _ => none }
def FlyingActsWrongFalsely : Prop := flyingActsRow.holds Try.pinned (OpenSpec.ofChange flyingActsWrong)

/- THE SECOND FORM. 'bulk': how many values and letters a reading holds, each counted each time it is reached (what is shared counts as often as it is met; a slice's spare places count too). A statement '..UptoSaid' is the law's where the arguments, and the package variables that the reading takes, are together of bulk at most 1048576: NARROWER than '..Said'. Prove '..Said' where nothing that the law and all that it calls make is longer than what came in: it says more and counts as full. Else prove '..UptoSaid'. A law counts once. -/
mutual
def uptoBulk {H : Type} : DataW H → Nat
  | .lit (.string bytes) => bytes.length + 1
  | .lit _ => 1
  | .nil => 1
  | .ptr d => uptoBulk d + 1
  | .slice elems spare => uptoBulkAll elems + uptoBulkAll spare + 1
  | .agg parts => uptoBulkAll parts + 1
  | .iface _ d => uptoBulk d + 1
  | .map entries => uptoBulkEntries entries + 1
  | .held _ => 1
def uptoBulkAll {H : Type} : List (DataW H) → Nat
  | [] => 0
  | d :: r => uptoBulk d + uptoBulkAll r
def uptoBulkEntries {H : Type} : List (Lit × DataW H) → Nat
  | [] => 0
  | x :: r => uptoBulkEntry x + uptoBulkEntries r
def uptoBulkEntry {H : Type} : Lit × DataW H → Nat
  | (.string bytes, d) => bytes.length + uptoBulk d + 1
  | (_, d) => uptoBulk d + 1
 end
def uptoSmall : (H : Type) → List (DataW H) → Bool := fun _ ds => decide (uptoBulkAll ds ≤ 1048576)
def OpenSpec.upto (s : _root_.Go.ChangeSpec) : _root_.Go.OpenSpec := { _root_.Go.OpenSpec.ofChange s with cond := some uptoSmall }

/-- 'tramwaylaw24.FlyingDead', WHERE WHAT IT READS IS OF BULK AT MOST 1048576: true; the input reads as it did. -/
def flyingDeadUptoRow : OpenClaim := { program := "ytmakaofdpoiaaaa", sum := "0eb8370ca62b031b6235f9498ee184a1d22c589ec1539bc279a789251506a73d", func := "tramway/tramwaylaw24.FlyingDead", spec := "flyingDead", unfollowed := true, recurses := true, apart := false, narrowed := true }
def FlyingDeadUptoSaid : Prop := flyingDeadUptoRow.holds Try.pinned (OpenSpec.upto flyingDeadSpec)

/-- 'tramwaylaw24.FlyingSlots', WHERE WHAT IT READS IS OF BULK AT MOST 1048576: true; the input reads as it did. -/
def flyingSlotsUptoRow : OpenClaim := { program := "ytmakaofdpoiaaaa", sum := "0eb8370ca62b031b6235f9498ee184a1d22c589ec1539bc279a789251506a73d", func := "tramway/tramwaylaw24.FlyingSlots", spec := "flyingSlots", unfollowed := true, recurses := true, apart := false, narrowed := true }
def FlyingSlotsUptoSaid : Prop := flyingSlotsUptoRow.holds Try.pinned (OpenSpec.upto flyingSlotsSpec)

/-- 'tramwaylaw24.FlyingFirst', WHERE WHAT IT READS IS OF BULK AT MOST 1048576: true; the input reads as it did. -/
def flyingFirstUptoRow : OpenClaim := { program := "ytmakaofdpoiaaaa", sum := "0eb8370ca62b031b6235f9498ee184a1d22c589ec1539bc279a789251506a73d", func := "tramway/tramwaylaw24.FlyingFirst", spec := "flyingFirst", inPlace := ["math/bits.Add64"], unfollowed := true, recurses := true, apart := false, narrowed := true }
def FlyingFirstUptoSaid : Prop := flyingFirstUptoRow.holds Try.pinned (OpenSpec.upto flyingFirstSpec)

/-- 'tramwaylaw24.FlyingGoes', WHERE WHAT IT READS IS OF BULK AT MOST 1048576: true; the input reads as it did. -/
def flyingGoesUptoRow : OpenClaim := { program := "ytmakaofdpoiaaaa", sum := "0eb8370ca62b031b6235f9498ee184a1d22c589ec1539bc279a789251506a73d", func := "tramway/tramwaylaw24.FlyingGoes", spec := "flyingGoes", inPlace := ["math/bits.Add64"], unfollowed := true, recurses := true, apart := false, narrowed := true }
def FlyingGoesUptoSaid : Prop := flyingGoesUptoRow.holds Try.pinned (OpenSpec.upto flyingGoesSpec)

/-- 'tramwaylaw24.FlyingActs', WHERE WHAT IT READS IS OF BULK AT MOST 1048576: true; the input reads as it did. -/
def flyingActsUptoRow : OpenClaim := { program := "ytmakaofdpoiaaaa", sum := "0eb8370ca62b031b6235f9498ee184a1d22c589ec1539bc279a789251506a73d", func := "tramway/tramwaylaw24.FlyingActs", spec := "flyingActs", inPlace := ["math/bits.Add64"], unfollowed := true, recurses := true, apart := false, narrowed := true }
def FlyingActsUptoSaid : Prop := flyingActsUptoRow.holds Try.pinned (OpenSpec.upto flyingActsSpec)

end Rows
end Go.Proofs.Ytmakaofdpoiaaaa
