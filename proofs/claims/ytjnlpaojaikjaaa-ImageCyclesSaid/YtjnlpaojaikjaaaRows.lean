/-
  No cell of these rows narrows 'for every input' (looked for: loops, veiled, ifaces, maps, wideKeys, modest, calm, conditions, laid).
  DERIVED. THE GIVEN ROWS OF THIS SEAT. 4 by the template 'for every input the law returns true; each argument reads behind the call as it read before'; 0 by the template 'total and deterministic' (their statements: YtjnlpaojaikjaaaTotals.lean).
  GIVEN WITH THE SEED: the statements are not yours to turn. If you find one false, say at which input.
  Laid BY PROGRAM, IN A SANDBOX (cutbox-rows.mjs): the forced cells as the released guide's own fill.sh prints them over the translation 832d5925bdc3d5c9… (all of the seat's roots in one cut). By AI agents, Wed Nov 11 2026. No macro, syntax, notation, axiom, sorry.
-/
import Derived.Test.YtjnlpaojaikjaaaChecked
import GoSem.Claim
import GoSem.ClaimJoined
import GoSem.ClaimMapViews
import Derived.JoinedTies
import Derived.KernelRfl
namespace Go.Proofs.Ytjnlpaojaikjaaa
/- THE CELL 'sum', in the pinned program and in every row, IS THE sha256 OF THE DUMP (.gsa) THAT YtjnlpaojaikjaaaProg.lean LOADS. Nothing in Lean hashes anything: it is a label: what it is worth is what the hold of that sum in a sandbox is worth. -/
noncomputable def Try.pinned : Pinned := { name := "ytjnlpaojaikjaaa", sum := "832d5925bdc3d5c9595ae40a48085b4a1d63cfaade2ac68a087e3414825965d4", checked := Try.checked }
namespace Rows
def none {H : Type} : Left H := { results := [], args := [] }

/-- 'tramwaylaw26.ImageGone': WHATEVER THE INPUT: true; the input reads as it did. -/
def imageGoneSpec : ChangeSpec := { name := "imageGone", fn := fun _ => fun
  | [d1, d2, d3] => { results := [.lit (.bool true)], args := [d1, d2, d3] }
  | _ => none }
def imageGoneRow : OpenClaim := { program := "ytjnlpaojaikjaaa", sum := "832d5925bdc3d5c9595ae40a48085b4a1d63cfaade2ac68a087e3414825965d4", func := "tramway/tramwaylaw26.ImageGone", spec := "imageGone", unfollowed := true, recurses := true, apart := false }
def ImageGoneSaid : Prop := imageGoneRow.holds Try.pinned (OpenSpec.ofChange imageGoneSpec)

/-- ITS FALSE NEIGHBOUR: 'it returns false'. Refute it at one input. -/
def imageGoneWrong : ChangeSpec := { name := "imageGone", fn := fun _ => fun
  | [d1, d2, d3] => { results := [.lit (.bool false)], args := [d1, d2, d3] }
  | _ => none }
def ImageGoneWrongFalsely : Prop := imageGoneRow.holds Try.pinned (OpenSpec.ofChange imageGoneWrong)

/-- 'tramwaylaw26.ImageCycles': WHATEVER THE INPUT: true; the input reads as it did. -/
def imageCyclesSpec : ChangeSpec := { name := "imageCycles", fn := fun _ => fun
  | [d1, d2, d3] => { results := [.lit (.bool true)], args := [d1, d2, d3] }
  | _ => none }
def imageCyclesRow : OpenClaim := { program := "ytjnlpaojaikjaaa", sum := "832d5925bdc3d5c9595ae40a48085b4a1d63cfaade2ac68a087e3414825965d4", func := "tramway/tramwaylaw26.ImageCycles", spec := "imageCycles", unfollowed := true, recurses := true, apart := false }
def ImageCyclesSaid : Prop := imageCyclesRow.holds Try.pinned (OpenSpec.ofChange imageCyclesSpec)

/-- ITS FALSE NEIGHBOUR: 'it returns false'. Refute it at one input. -/
def imageCyclesWrong : ChangeSpec := { name := "imageCycles", fn := fun _ => fun
  | [d1, d2, d3] => { results := [.lit (.bool false)], args := [d1, d2, d3] }
  | _ => none }
def ImageCyclesWrongFalsely : Prop := imageCyclesRow.holds Try.pinned (OpenSpec.ofChange imageCyclesWrong)

/-- 'tramwaylaw26.ImageMissed': WHATEVER THE INPUT: true; the input reads as it did. -/
def imageMissedSpec : ChangeSpec := { name := "imageMissed", fn := fun _ => fun
  | [d1, d2, d3] => { results := [.lit (.bool true)], args := [d1, d2, d3] }
  | _ => none }
def imageMissedRow : OpenClaim := { program := "ytjnlpaojaikjaaa", sum := "832d5925bdc3d5c9595ae40a48085b4a1d63cfaade2ac68a087e3414825965d4", func := "tramway/tramwaylaw26.ImageMissed", spec := "imageMissed", unfollowed := true, recurses := true, apart := false }
def ImageMissedSaid : Prop := imageMissedRow.holds Try.pinned (OpenSpec.ofChange imageMissedSpec)

/-- ITS FALSE NEIGHBOUR: 'it returns false'. Refute it at one input. -/
def imageMissedWrong : ChangeSpec := { name := "imageMissed", fn := fun _ => fun
  | [d1, d2, d3] => { results := [.lit (.bool false)], args := [d1, d2, d3] }
  | _ => none }
def ImageMissedWrongFalsely : Prop := imageMissedRow.holds Try.pinned (OpenSpec.ofChange imageMissedWrong)

/-- 'tramwaylaw26.ImageActs': WHATEVER THE INPUT: true; the input reads as it did. -/
def imageActsSpec : ChangeSpec := { name := "imageActs", fn := fun _ => fun
  | [d1, d2, d3] => { results := [.lit (.bool true)], args := [d1, d2, d3] }
  | _ => none }
def imageActsRow : OpenClaim := { program := "ytjnlpaojaikjaaa", sum := "832d5925bdc3d5c9595ae40a48085b4a1d63cfaade2ac68a087e3414825965d4", func := "tramway/tramwaylaw26.ImageActs", spec := "imageActs", unfollowed := true, recurses := true, apart := false }
def ImageActsSaid : Prop := imageActsRow.holds Try.pinned (OpenSpec.ofChange imageActsSpec)

/-- ITS FALSE NEIGHBOUR: 'it returns false'. Refute it at one input. -/
def imageActsWrong : ChangeSpec := { name := "imageActs", fn := fun _ => fun
  | [d1, d2, d3] => { results := [.lit (.bool false)], args := [d1, d2, d3] }
  | _ => none }
def ImageActsWrongFalsely : Prop := imageActsRow.holds Try.pinned (OpenSpec.ofChange imageActsWrong)

/- THE SECOND FORM. 'bulk': how many values and letters a reading holds, each counted each time it is reached (what is shared counts as often as it is met; a slice's spare places count too). A statement '..UptoSaid' is the law's where the arguments, and the package variables that the reading takes, are together of bulk at most 1048576: NARROWER than '..Said'. Prove '..Said' where nothing that the law and all that it calls make is longer than what came in: it says more and counts as full. Else prove '..UptoSaid'. A law counts once. -/
mutual
def uptoBulk {H : Type} : DataW H → Nat
  | .lit (.string bytes) => bytes.length + 1
  | .lit _ => 1
  | .nil => 1
  | .ptr d => uptoBulk d + 1
  | .slice elems spare => uptoBulkAll elems + uptoBulkAll spare + 1
  | .agg parts => uptoBulkAll parts + 1
  | .iface _ d => uptoBulk d + 1
  | .map entries => uptoBulkEntries entries + 1
  | .held _ => 1
def uptoBulkAll {H : Type} : List (DataW H) → Nat
  | [] => 0
  | d :: r => uptoBulk d + uptoBulkAll r
def uptoBulkEntries {H : Type} : List (Lit × DataW H) → Nat
  | [] => 0
  | x :: r => uptoBulkEntry x + uptoBulkEntries r
def uptoBulkEntry {H : Type} : Lit × DataW H → Nat
  | (.string bytes, d) => bytes.length + uptoBulk d + 1
  | (_, d) => uptoBulk d + 1
 end
def uptoSmall : (H : Type) → List (DataW H) → Bool := fun _ ds => decide (uptoBulkAll ds ≤ 1048576)
def OpenSpec.upto (s : _root_.Go.ChangeSpec) : _root_.Go.OpenSpec := { _root_.Go.OpenSpec.ofChange s with cond := some uptoSmall }

/-- 'tramwaylaw26.ImageGone', WHERE WHAT IT READS IS OF BULK AT MOST 1048576: true; the input reads as it did. -/
def imageGoneUptoRow : OpenClaim := { program := "ytjnlpaojaikjaaa", sum := "832d5925bdc3d5c9595ae40a48085b4a1d63cfaade2ac68a087e3414825965d4", func := "tramway/tramwaylaw26.ImageGone", spec := "imageGone", unfollowed := true, recurses := true, apart := false, narrowed := true }
def ImageGoneUptoSaid : Prop := imageGoneUptoRow.holds Try.pinned (OpenSpec.upto imageGoneSpec)

/-- 'tramwaylaw26.ImageCycles', WHERE WHAT IT READS IS OF BULK AT MOST 1048576: true; the input reads as it did. -/
def imageCyclesUptoRow : OpenClaim := { program := "ytjnlpaojaikjaaa", sum := "832d5925bdc3d5c9595ae40a48085b4a1d63cfaade2ac68a087e3414825965d4", func := "tramway/tramwaylaw26.ImageCycles", spec := "imageCycles", unfollowed := true, recurses := true, apart := false, narrowed := true }
def ImageCyclesUptoSaid : Prop := imageCyclesUptoRow.holds Try.pinned (OpenSpec.upto imageCyclesSpec)

/-- 'tramwaylaw26.ImageMissed', WHERE WHAT IT READS IS OF BULK AT MOST 1048576: true; the input reads as it did. -/
def imageMissedUptoRow : OpenClaim := { program := "ytjnlpaojaikjaaa", sum := "832d5925bdc3d5c9595ae40a48085b4a1d63cfaade2ac68a087e3414825965d4", func := "tramway/tramwaylaw26.ImageMissed", spec := "imageMissed", unfollowed := true, recurses := true, apart := false, narrowed := true }
def ImageMissedUptoSaid : Prop := imageMissedUptoRow.holds Try.pinned (OpenSpec.upto imageMissedSpec)

/-- 'tramwaylaw26.ImageActs', WHERE WHAT IT READS IS OF BULK AT MOST 1048576: true; the input reads as it did. -/
def imageActsUptoRow : OpenClaim := { program := "ytjnlpaojaikjaaa", sum := "832d5925bdc3d5c9595ae40a48085b4a1d63cfaade2ac68a087e3414825965d4", func := "tramway/tramwaylaw26.ImageActs", spec := "imageActs", unfollowed := true, recurses := true, apart := false, narrowed := true }
def ImageActsUptoSaid : Prop := imageActsUptoRow.holds Try.pinned (OpenSpec.upto imageActsSpec)

end Rows
end Go.Proofs.Ytjnlpaojaikjaaa
