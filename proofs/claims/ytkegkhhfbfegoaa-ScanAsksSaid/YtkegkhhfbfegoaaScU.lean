/- Layer 20: a scan asks the document's frames: the walk's statement. -/
import Derived.Test.YtkegkhhfbfegoaaScT
import Derived.Test.YtkegkhhfbfegoaaIn
import Derived.Test.YtkegkhhfbfegoaaTy
set_option linter.unusedVariables false
set_option linter.unusedSimpArgs false
namespace Go.Proofs.Ytkegkhhfbfegoaa
open Sx Ls
theorem ScanAsksW (a0a : Option Addr) (a0l : Nat) (a0c : Nat) (a1 : Int) (w : World) (h0_0 : SliceAt 1 B4 R4 w a0a a0l a0c) (h1_0 : (Lit.int .u8 a1).wf = true) :
    Calls Try.prog 6 #[.slice a0a a0l a0c, .int .u8 a1] w fun e w' => e = .returned (.bool true) ∧ Go.RowKit.Below w.heap.size w w' := by
  obtain ⟨H, L, rfl, hin, _, hw, hx⟩ := inS_of (f := cB) (Good := fun _ => True) h0_0 (by decide) (fun _ => rfl) (fun cs ⟨x, h⟩ => ⟨x, h, trivial⟩)
  exact (asks_sc hin a1 (wf_u8 h1_0)).fin w hw hx
end Go.Proofs.Ytkegkhhfbfegoaa
