/- How the parameters of this seat's laws read: each type's cells, written out. Printed by wip/tools/mkrow.py. -/
import Derived.Test.YtkajoepgebfjoaaDoorRd
import Derived.Test.YtkajoepgebfjoaaDoorRows
set_option linter.unusedVariables false
set_option linter.unusedSimpArgs false
set_option maxRecDepth 100000
namespace Go.Proofs.YtkajoepgebfjoaaDoor
open Go.ChangeShapes Go.WideShapes Go.Deep

theorem cells22 : Tryd.prog.cellsOf 22 = 1 := by kernel_rfl
theorem cells4 : Tryd.prog.cellsOf 4 = 1 := by kernel_rfl
theorem cells3 : Tryd.prog.cellsOf 3 = 1 := by kernel_rfl
theorem cells9 : Tryd.prog.cellsOf 9 = 1 := by kernel_rfl
theorem cells25 : Tryd.prog.cellsOf 25 = 3 := by kernel_rfl
def R22 (w : World) (cs : List Value) : Prop := ∃ (x : Int), cs = [.int .u64 x] ∧ (Lit.int .u64 x).wf = true
theorem rd22 {H : Type} {enc : TypeId × Value → H} {w : World} {base : Nat} {spare : Nat → Bool} {held : Bool} {fuel : Nat} {cs : List Value} {x : DataW H × List MemPlace}
    (h : DataW.trod enc Tryd.prog w base spare held fuel 22 cs = some x) (hw : Wt Tryd.prog 22 x.1) : R22 w cs := by
  exact rd_int Tryd.underlying22 h
def R4 (w : World) (cs : List Value) : Prop := ∃ (x : Bool), cs = [.bool x]
theorem rd4 {H : Type} {enc : TypeId × Value → H} {w : World} {base : Nat} {spare : Nat → Bool} {held : Bool} {fuel : Nat} {cs : List Value} {x : DataW H × List MemPlace}
    (h : DataW.trod enc Tryd.prog w base spare held fuel 4 cs = some x) (hw : Wt Tryd.prog 4 x.1) : R4 w cs := by
  exact rd_bool Tryd.underlying4 h
def R3 (w : World) (cs : List Value) : Prop := ∃ (x : Int), cs = [.int .i64 x] ∧ (Lit.int .i64 x).wf = true
theorem rd3 {H : Type} {enc : TypeId × Value → H} {w : World} {base : Nat} {spare : Nat → Bool} {held : Bool} {fuel : Nat} {cs : List Value} {x : DataW H × List MemPlace}
    (h : DataW.trod enc Tryd.prog w base spare held fuel 3 cs = some x) (hw : Wt Tryd.prog 3 x.1) : R3 w cs := by
  exact rd_int Tryd.underlying3 h
def R9 (w : World) (cs : List Value) : Prop := ∃ (x : ByteArray), cs = [.string x] ∧ x.size ≤ reachBytes
theorem rd9 {H : Type} {enc : TypeId × Value → H} {w : World} {base : Nat} {spare : Nat → Bool} {held : Bool} {fuel : Nat} {cs : List Value} {x : DataW H × List MemPlace}
    (h : DataW.trod enc Tryd.prog w base spare held fuel 9 cs = some x) (hw : Wt Tryd.prog 9 x.1) : R9 w cs := by
  exact rd_string Tryd.underlying9 h hw
def R25 (w : World) (cs : List Value) : Prop := ∃ (x0 : Int) (x1 : Int) (x2 : ByteArray), cs = [.int .i64 x0, .int .u64 x1, .string x2] ∧ (Lit.int .i64 x0).wf = true ∧ (Lit.int .u64 x1).wf = true ∧ x2.size ≤ reachBytes
theorem rd25 {H : Type} {enc : TypeId × Value → H} {w : World} {base : Nat} {spare : Nat → Bool} {held : Bool} {fuel : Nat} {cs : List Value} {x : DataW H × List MemPlace}
    (h : DataW.trod enc Tryd.prog w base spare held fuel 25 cs = some x) (hw : Wt Tryd.prog 25 x.1) : R25 w cs := by
  obtain ⟨hl, _⟩ := rd_struct Tryd.underlying25 h hw
  rw [cells25] at hl
  match cs, hl, h with
  | [c0, c1, c2], _, h =>
    obtain ⟨_, gx⟩ := rd_struct Tryd.underlying25 h hw
    obtain ⟨nx0, yx0, tx0, wx0⟩ := gx 0 _ rfl
    replace tx0 : DataW.trod enc Tryd.prog w base spare held nx0 3 [c0] = some yx0 := by simpa [cells3] using tx0
    obtain ⟨x0, ex0, fx0⟩ := rd_int Tryd.underlying3 tx0
    obtain rfl := List.cons.inj ex0 |>.1
    obtain ⟨nx1, yx1, tx1, wx1⟩ := gx 1 _ rfl
    replace tx1 : DataW.trod enc Tryd.prog w base spare held nx1 22 [c1] = some yx1 := by simpa [cells22] using tx1
    obtain ⟨x1, ex1, fx1⟩ := rd_int Tryd.underlying22 tx1
    obtain rfl := List.cons.inj ex1 |>.1
    obtain ⟨nx2, yx2, tx2, wx2⟩ := gx 2 _ rfl
    replace tx2 : DataW.trod enc Tryd.prog w base spare held nx2 9 [c2] = some yx2 := by simpa [cells9] using tx2
    obtain ⟨x2, ex2, fx2⟩ := rd_string Tryd.underlying9 tx2 wx2
    obtain rfl := List.cons.inj ex2 |>.1
    exact ⟨x0, x1, x2, rfl, fx0, fx1, fx2⟩
end Go.Proofs.YtkajoepgebfjoaaDoor
