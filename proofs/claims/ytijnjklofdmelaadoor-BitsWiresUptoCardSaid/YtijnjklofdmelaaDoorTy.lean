/- How the parameters of this seat's laws read: each type's cells, written out. Printed by wip/tools/mkrow.py. -/
import Derived.Test.YtijnjklofdmelaaDoorRd
import Derived.Test.YtijnjklofdmelaaDoorRows
set_option linter.unusedVariables false
set_option linter.unusedSimpArgs false
set_option maxRecDepth 100000
namespace Go.Proofs.YtijnjklofdmelaaDoor
open Go.ChangeShapes Go.WideShapes Go.Deep

theorem cells9 : Tryd.prog.cellsOf 9 = 1 := by kernel_rfl
theorem cells5 : Tryd.prog.cellsOf 5 = 1 := by kernel_rfl
theorem cells27 : Tryd.prog.cellsOf 27 = 1 := by kernel_rfl
theorem cells38 : Tryd.prog.cellsOf 38 = 1 := by kernel_rfl
theorem cells3 : Tryd.prog.cellsOf 3 = 1 := by kernel_rfl
theorem cells39 : Tryd.prog.cellsOf 39 = 1 := by kernel_rfl
theorem cells43 : Tryd.prog.cellsOf 43 = 1 := by kernel_rfl
theorem cells22 : Tryd.prog.cellsOf 22 = 1 := by kernel_rfl
def B3 : Nat := 8
theorem bytes3 : Tryd.prog.bytesOf 3 = B3 := by kernel_rfl
def B5 : Nat := 1
theorem bytes5 : Tryd.prog.bytesOf 5 = B5 := by kernel_rfl
def B9 : Nat := 16
theorem bytes9 : Tryd.prog.bytesOf 9 = B9 := by kernel_rfl
def R9 (w : World) (cs : List Value) : Prop := ∃ (x : ByteArray), cs = [.string x] ∧ x.size ≤ reachBytes
theorem rd9 {H : Type} {enc : TypeId × Value → H} {w : World} {base : Nat} {spare : Nat → Bool} {held : Bool} {fuel : Nat} {cs : List Value} {x : DataW H × List MemPlace}
    (h : DataW.trod enc Tryd.prog w base spare held fuel 9 cs = some x) (hw : Wt Tryd.prog 9 x.1) : R9 w cs := by
  exact rd_string Tryd.underlying9 h hw
def R5 (w : World) (cs : List Value) : Prop := ∃ (x : Int), cs = [.int .u8 x] ∧ (Lit.int .u8 x).wf = true
theorem rd5 {H : Type} {enc : TypeId × Value → H} {w : World} {base : Nat} {spare : Nat → Bool} {held : Bool} {fuel : Nat} {cs : List Value} {x : DataW H × List MemPlace}
    (h : DataW.trod enc Tryd.prog w base spare held fuel 5 cs = some x) (hw : Wt Tryd.prog 5 x.1) : R5 w cs := by
  exact rd_int Tryd.underlying5 h
def R27 (w : World) (cs : List Value) : Prop := ∃ (xa : Option Addr) (xl : Nat) (xc : Nat), cs = [.slice xa xl xc] ∧ SliceAt 1 B5 R5 w xa xl xc
theorem rd27 {H : Type} {enc : TypeId × Value → H} {w : World} {base : Nat} {spare : Nat → Bool} {held : Bool} {fuel : Nat} {cs : List Value} {x : DataW H × List MemPlace}
    (h : DataW.trod enc Tryd.prog w base spare held fuel 27 cs = some x) (hw : Wt Tryd.prog 27 x.1) : R27 w cs := by
  exact rd_slice (s := 1) (B := B5) (R := R5) Tryd.underlying27 cells5 bytes5 (fun _ _ _ h_ w_ => rd5 h_ w_) h hw
def R38 (w : World) (cs : List Value) : Prop := ∃ (xa : Option Addr) (xl : Nat) (xc : Nat), cs = [.slice xa xl xc] ∧ SliceAt 1 B9 R9 w xa xl xc
theorem rd38 {H : Type} {enc : TypeId × Value → H} {w : World} {base : Nat} {spare : Nat → Bool} {held : Bool} {fuel : Nat} {cs : List Value} {x : DataW H × List MemPlace}
    (h : DataW.trod enc Tryd.prog w base spare held fuel 38 cs = some x) (hw : Wt Tryd.prog 38 x.1) : R38 w cs := by
  exact rd_slice (s := 1) (B := B9) (R := R9) Tryd.underlying38 cells9 bytes9 (fun _ _ _ h_ w_ => rd9 h_ w_) h hw
def R3 (w : World) (cs : List Value) : Prop := ∃ (x : Int), cs = [.int .i64 x] ∧ (Lit.int .i64 x).wf = true
theorem rd3 {H : Type} {enc : TypeId × Value → H} {w : World} {base : Nat} {spare : Nat → Bool} {held : Bool} {fuel : Nat} {cs : List Value} {x : DataW H × List MemPlace}
    (h : DataW.trod enc Tryd.prog w base spare held fuel 3 cs = some x) (hw : Wt Tryd.prog 3 x.1) : R3 w cs := by
  exact rd_int Tryd.underlying3 h
def R39 (w : World) (cs : List Value) : Prop := ∃ (xa : Option Addr) (xl : Nat) (xc : Nat), cs = [.slice xa xl xc] ∧ SliceAt 1 B3 R3 w xa xl xc
theorem rd39 {H : Type} {enc : TypeId × Value → H} {w : World} {base : Nat} {spare : Nat → Bool} {held : Bool} {fuel : Nat} {cs : List Value} {x : DataW H × List MemPlace}
    (h : DataW.trod enc Tryd.prog w base spare held fuel 39 cs = some x) (hw : Wt Tryd.prog 39 x.1) : R39 w cs := by
  exact rd_slice (s := 1) (B := B3) (R := R3) Tryd.underlying39 cells3 bytes3 (fun _ _ _ h_ w_ => rd3 h_ w_) h hw
def R43 (w : World) (cs : List Value) : Prop := ∃ (x : Int), cs = [.int .u64 x] ∧ (Lit.int .u64 x).wf = true
theorem rd43 {H : Type} {enc : TypeId × Value → H} {w : World} {base : Nat} {spare : Nat → Bool} {held : Bool} {fuel : Nat} {cs : List Value} {x : DataW H × List MemPlace}
    (h : DataW.trod enc Tryd.prog w base spare held fuel 43 cs = some x) (hw : Wt Tryd.prog 43 x.1) : R43 w cs := by
  exact rd_int Tryd.underlying43 h
def R22 (w : World) (cs : List Value) : Prop := ∃ (x : Int), cs = [.int .u16 x] ∧ (Lit.int .u16 x).wf = true
theorem rd22 {H : Type} {enc : TypeId × Value → H} {w : World} {base : Nat} {spare : Nat → Bool} {held : Bool} {fuel : Nat} {cs : List Value} {x : DataW H × List MemPlace}
    (h : DataW.trod enc Tryd.prog w base spare held fuel 22 cs = some x) (hw : Wt Tryd.prog 22 x.1) : R22 w cs := by
  exact rd_int Tryd.underlying22 h
end Go.Proofs.YtijnjklofdmelaaDoor
