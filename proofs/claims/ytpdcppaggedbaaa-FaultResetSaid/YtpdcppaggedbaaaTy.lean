/- How the parameters of this seat's laws read: each type's cells, written out. Printed by wip/tools/mkrow.py. -/
import Derived.Test.YtpdcppaggedbaaaRd
import Derived.Test.YtpdcppaggedbaaaRows
namespace Go.Proofs.Ytpdcppaggedbaaa
open Go.ChangeShapes Go.WideShapes Go.Deep

theorem cells5 : Try.prog.cellsOf 5 = 1 := by kernel_rfl
theorem cells22 : Try.prog.cellsOf 22 = 1 := by kernel_rfl
theorem cells31 : Try.prog.cellsOf 31 = 1 := by kernel_rfl
theorem cells3 : Try.prog.cellsOf 3 = 1 := by kernel_rfl
theorem cells4 : Try.prog.cellsOf 4 = 1 := by kernel_rfl
theorem cells40 : Try.prog.cellsOf 40 = 4 := by kernel_rfl
theorem cells34 : Try.prog.cellsOf 34 = 1 := by kernel_rfl
def B5 : Nat := 1
theorem bytes5 : Try.prog.bytesOf 5 = B5 := by kernel_rfl
def B40 : Nat := 24
theorem bytes40 : Try.prog.bytesOf 40 = B40 := by kernel_rfl
def R5 (w : World) (cs : List Value) : Prop := ∃ (x : Int), cs = [.int .u8 x] ∧ (Lit.int .u8 x).wf = true
theorem rd5 {H : Type} {enc : TypeId × Value → H} {w : World} {base : Nat} {spare : Nat → Bool} {held : Bool} {fuel : Nat} {cs : List Value} {x : DataW H × List MemPlace}
    (h : DataW.trod enc Try.prog w base spare held fuel 5 cs = some x) (hw : Wt Try.prog 5 x.1) : R5 w cs := by
  exact rd_int Try.underlying5 h
def R22 (w : World) (cs : List Value) : Prop := ∃ (xa : Option Addr) (xl : Nat) (xc : Nat), cs = [.slice xa xl xc] ∧ SliceAt 1 B5 R5 w xa xl xc
theorem rd22 {H : Type} {enc : TypeId × Value → H} {w : World} {base : Nat} {spare : Nat → Bool} {held : Bool} {fuel : Nat} {cs : List Value} {x : DataW H × List MemPlace}
    (h : DataW.trod enc Try.prog w base spare held fuel 22 cs = some x) (hw : Wt Try.prog 22 x.1) : R22 w cs := by
  exact rd_slice (s := 1) (B := B5) (R := R5) Try.underlying22 cells5 bytes5 (fun _ _ _ h_ w_ => rd5 h_ w_) h hw
def R31 (w : World) (cs : List Value) : Prop := ∃ (x : Int), cs = [.int .u16 x] ∧ (Lit.int .u16 x).wf = true
theorem rd31 {H : Type} {enc : TypeId × Value → H} {w : World} {base : Nat} {spare : Nat → Bool} {held : Bool} {fuel : Nat} {cs : List Value} {x : DataW H × List MemPlace}
    (h : DataW.trod enc Try.prog w base spare held fuel 31 cs = some x) (hw : Wt Try.prog 31 x.1) : R31 w cs := by
  exact rd_int Try.underlying31 h
def R3 (w : World) (cs : List Value) : Prop := ∃ (x : Int), cs = [.int .i64 x] ∧ (Lit.int .i64 x).wf = true
theorem rd3 {H : Type} {enc : TypeId × Value → H} {w : World} {base : Nat} {spare : Nat → Bool} {held : Bool} {fuel : Nat} {cs : List Value} {x : DataW H × List MemPlace}
    (h : DataW.trod enc Try.prog w base spare held fuel 3 cs = some x) (hw : Wt Try.prog 3 x.1) : R3 w cs := by
  exact rd_int Try.underlying3 h
def R4 (w : World) (cs : List Value) : Prop := ∃ (x : Bool), cs = [.bool x]
theorem rd4 {H : Type} {enc : TypeId × Value → H} {w : World} {base : Nat} {spare : Nat → Bool} {held : Bool} {fuel : Nat} {cs : List Value} {x : DataW H × List MemPlace}
    (h : DataW.trod enc Try.prog w base spare held fuel 4 cs = some x) (hw : Wt Try.prog 4 x.1) : R4 w cs := by
  exact rd_bool Try.underlying4 h
def R40 (w : World) (cs : List Value) : Prop := ∃ (x0 : Int) (x1 : Int) (x2 : Bool) (x3 : Int), cs = [.int .i64 x0, .int .i64 x1, .bool x2, .int .u8 x3] ∧ (Lit.int .i64 x0).wf = true ∧ (Lit.int .i64 x1).wf = true ∧ (Lit.int .u8 x3).wf = true
theorem rd40 {H : Type} {enc : TypeId × Value → H} {w : World} {base : Nat} {spare : Nat → Bool} {held : Bool} {fuel : Nat} {cs : List Value} {x : DataW H × List MemPlace}
    (h : DataW.trod enc Try.prog w base spare held fuel 40 cs = some x) (hw : Wt Try.prog 40 x.1) : R40 w cs := by
  obtain ⟨hl, _⟩ := rd_struct Try.underlying40 h hw
  rw [cells40] at hl
  match cs, hl, h with
  | [c0, c1, c2, c3], _, h =>
    obtain ⟨_, gx⟩ := rd_struct Try.underlying40 h hw
    obtain ⟨nx0, yx0, tx0, wx0⟩ := gx 0 _ rfl
    replace tx0 : DataW.trod enc Try.prog w base spare held nx0 3 [c0] = some yx0 := by simpa [cells3] using tx0
    obtain ⟨x0, ex0, fx0⟩ := rd_int Try.underlying3 tx0
    obtain rfl := List.cons.inj ex0 |>.1
    obtain ⟨nx1, yx1, tx1, wx1⟩ := gx 1 _ rfl
    replace tx1 : DataW.trod enc Try.prog w base spare held nx1 3 [c1] = some yx1 := by simpa [cells3] using tx1
    obtain ⟨x1, ex1, fx1⟩ := rd_int Try.underlying3 tx1
    obtain rfl := List.cons.inj ex1 |>.1
    obtain ⟨nx2, yx2, tx2, wx2⟩ := gx 2 _ rfl
    replace tx2 : DataW.trod enc Try.prog w base spare held nx2 4 [c2] = some yx2 := by simpa [cells4] using tx2
    obtain ⟨x2, ex2⟩ := rd_bool Try.underlying4 tx2
    obtain rfl := List.cons.inj ex2 |>.1
    obtain ⟨nx3, yx3, tx3, wx3⟩ := gx 3 _ rfl
    replace tx3 : DataW.trod enc Try.prog w base spare held nx3 5 [c3] = some yx3 := by simpa [cells5] using tx3
    obtain ⟨x3, ex3, fx3⟩ := rd_int Try.underlying5 tx3
    obtain rfl := List.cons.inj ex3 |>.1
    exact ⟨x0, x1, x2, x3, rfl, fx0, fx1, fx3⟩
def R34 (w : World) (cs : List Value) : Prop := ∃ (xa : Option Addr) (xl : Nat) (xc : Nat), cs = [.slice xa xl xc] ∧ SliceAt 4 B40 R40 w xa xl xc
theorem rd34 {H : Type} {enc : TypeId × Value → H} {w : World} {base : Nat} {spare : Nat → Bool} {held : Bool} {fuel : Nat} {cs : List Value} {x : DataW H × List MemPlace}
    (h : DataW.trod enc Try.prog w base spare held fuel 34 cs = some x) (hw : Wt Try.prog 34 x.1) : R34 w cs := by
  exact rd_slice (s := 4) (B := B40) (R := R40) Try.underlying34 cells40 bytes40 (fun _ _ _ h_ w_ => rd40 h_ w_) h hw
end Go.Proofs.Ytpdcppaggedbaaa
