/- How the parameters of this seat's laws read: each type's cells, written out. Printed by wip/tools/mkrow.py. -/
import Derived.Test.YtkegkhhfbfegoaaRd
import Derived.Test.YtkegkhhfbfegoaaRows
set_option linter.unusedVariables false
set_option linter.unusedSimpArgs false
namespace Go.Proofs.Ytkegkhhfbfegoaa
open Go.ChangeShapes Go.WideShapes Go.Deep

theorem cells33 : Try.prog.cellsOf 33 = 1 := by kernel_rfl
theorem cells34 : Try.prog.cellsOf 34 = 4 := by kernel_rfl
theorem cells3 : Try.prog.cellsOf 3 = 1 := by kernel_rfl
theorem cells65 : Try.prog.cellsOf 65 = 5 := by kernel_rfl
theorem cells22 : Try.prog.cellsOf 22 = 1 := by kernel_rfl
theorem cells23 : Try.prog.cellsOf 23 = 1 := by kernel_rfl
theorem cells4 : Try.prog.cellsOf 4 = 1 := by kernel_rfl
theorem cells48 : Try.prog.cellsOf 48 = 1 := by kernel_rfl
theorem cells5 : Try.prog.cellsOf 5 = 1 := by kernel_rfl
def B3 : Nat := 8
theorem bytes3 : Try.prog.bytesOf 3 = B3 := by kernel_rfl
def B4 : Nat := 1
theorem bytes4 : Try.prog.bytesOf 4 = B4 := by kernel_rfl
def B65 : Nat := 24
theorem bytes65 : Try.prog.bytesOf 65 = B65 := by kernel_rfl
def R33 (w : World) (cs : List Value) : Prop := ∃ (x : Int), cs = [.int .u32 x] ∧ (Lit.int .u32 x).wf = true
theorem rd33 {H : Type} {enc : TypeId × Value → H} {w : World} {base : Nat} {spare : Nat → Bool} {held : Bool} {fuel : Nat} {cs : List Value} {x : DataW H × List MemPlace}
    (h : DataW.trod enc Try.prog w base spare held fuel 33 cs = some x) (hw : Wt Try.prog 33 x.1) : R33 w cs := by
  exact rd_int Try.underlying33 h
def R34 (w : World) (cs : List Value) : Prop := ∃ (x0 : Int) (x1 : Int) (x2 : Int) (x3 : Int), cs = [.int .u32 x0, .int .u32 x1, .int .u32 x2, .int .u32 x3] ∧ (Lit.int .u32 x0).wf = true ∧ (Lit.int .u32 x1).wf = true ∧ (Lit.int .u32 x2).wf = true ∧ (Lit.int .u32 x3).wf = true
theorem rd34 {H : Type} {enc : TypeId × Value → H} {w : World} {base : Nat} {spare : Nat → Bool} {held : Bool} {fuel : Nat} {cs : List Value} {x : DataW H × List MemPlace}
    (h : DataW.trod enc Try.prog w base spare held fuel 34 cs = some x) (hw : Wt Try.prog 34 x.1) : R34 w cs := by
  obtain ⟨hl, _⟩ := rd_array Try.underlying34 h hw
  rw [cells34] at hl
  match cs, hl, h with
  | [c0, c1, c2, c3], _, h =>
    obtain ⟨_, gx⟩ := rd_array Try.underlying34 h hw
    obtain ⟨nx0, yx0, tx0, wx0⟩ := gx 0 (by omega)
    replace tx0 : DataW.trod enc Try.prog w base spare held nx0 33 [c0] = some yx0 := by simpa [cells33] using tx0
    obtain ⟨x0, ex0, fx0⟩ := rd_int Try.underlying33 tx0
    obtain rfl := List.cons.inj ex0 |>.1
    obtain ⟨nx1, yx1, tx1, wx1⟩ := gx 1 (by omega)
    replace tx1 : DataW.trod enc Try.prog w base spare held nx1 33 [c1] = some yx1 := by simpa [cells33] using tx1
    obtain ⟨x1, ex1, fx1⟩ := rd_int Try.underlying33 tx1
    obtain rfl := List.cons.inj ex1 |>.1
    obtain ⟨nx2, yx2, tx2, wx2⟩ := gx 2 (by omega)
    replace tx2 : DataW.trod enc Try.prog w base spare held nx2 33 [c2] = some yx2 := by simpa [cells33] using tx2
    obtain ⟨x2, ex2, fx2⟩ := rd_int Try.underlying33 tx2
    obtain rfl := List.cons.inj ex2 |>.1
    obtain ⟨nx3, yx3, tx3, wx3⟩ := gx 3 (by omega)
    replace tx3 : DataW.trod enc Try.prog w base spare held nx3 33 [c3] = some yx3 := by simpa [cells33] using tx3
    obtain ⟨x3, ex3, fx3⟩ := rd_int Try.underlying33 tx3
    obtain rfl := List.cons.inj ex3 |>.1
    exact ⟨x0, x1, x2, x3, rfl, fx0, fx1, fx2, fx3⟩
def R3 (w : World) (cs : List Value) : Prop := ∃ (x : Int), cs = [.int .i64 x] ∧ (Lit.int .i64 x).wf = true
theorem rd3 {H : Type} {enc : TypeId × Value → H} {w : World} {base : Nat} {spare : Nat → Bool} {held : Bool} {fuel : Nat} {cs : List Value} {x : DataW H × List MemPlace}
    (h : DataW.trod enc Try.prog w base spare held fuel 3 cs = some x) (hw : Wt Try.prog 3 x.1) : R3 w cs := by
  exact rd_int Try.underlying3 h
def R65 (w : World) (cs : List Value) : Prop := ∃ (x0_0 : Int) (x0_1 : Int) (x0_2 : Int) (x0_3 : Int) (x1 : Int), cs = [.int .u32 x0_0, .int .u32 x0_1, .int .u32 x0_2, .int .u32 x0_3, .int .i64 x1] ∧ (Lit.int .u32 x0_0).wf = true ∧ (Lit.int .u32 x0_1).wf = true ∧ (Lit.int .u32 x0_2).wf = true ∧ (Lit.int .u32 x0_3).wf = true ∧ (Lit.int .i64 x1).wf = true
theorem rd65 {H : Type} {enc : TypeId × Value → H} {w : World} {base : Nat} {spare : Nat → Bool} {held : Bool} {fuel : Nat} {cs : List Value} {x : DataW H × List MemPlace}
    (h : DataW.trod enc Try.prog w base spare held fuel 65 cs = some x) (hw : Wt Try.prog 65 x.1) : R65 w cs := by
  obtain ⟨hl, _⟩ := rd_struct Try.underlying65 h hw
  rw [cells65] at hl
  match cs, hl, h with
  | [c0, c1, c2, c3, c4], _, h =>
    obtain ⟨_, gx⟩ := rd_struct Try.underlying65 h hw
    obtain ⟨nx0, yx0, tx0, wx0⟩ := gx 0 _ rfl
    replace tx0 : DataW.trod enc Try.prog w base spare held nx0 34 [c0, c1, c2, c3] = some yx0 := by simpa [cells34] using tx0
    obtain ⟨_, gx0⟩ := rd_array Try.underlying34 tx0 wx0
    obtain ⟨nx0_0, yx0_0, tx0_0, wx0_0⟩ := gx0 0 (by omega)
    replace tx0_0 : DataW.trod enc Try.prog w base spare held nx0_0 33 [c0] = some yx0_0 := by simpa [cells33] using tx0_0
    obtain ⟨x0_0, ex0_0, fx0_0⟩ := rd_int Try.underlying33 tx0_0
    obtain rfl := List.cons.inj ex0_0 |>.1
    obtain ⟨nx0_1, yx0_1, tx0_1, wx0_1⟩ := gx0 1 (by omega)
    replace tx0_1 : DataW.trod enc Try.prog w base spare held nx0_1 33 [c1] = some yx0_1 := by simpa [cells33] using tx0_1
    obtain ⟨x0_1, ex0_1, fx0_1⟩ := rd_int Try.underlying33 tx0_1
    obtain rfl := List.cons.inj ex0_1 |>.1
    obtain ⟨nx0_2, yx0_2, tx0_2, wx0_2⟩ := gx0 2 (by omega)
    replace tx0_2 : DataW.trod enc Try.prog w base spare held nx0_2 33 [c2] = some yx0_2 := by simpa [cells33] using tx0_2
    obtain ⟨x0_2, ex0_2, fx0_2⟩ := rd_int Try.underlying33 tx0_2
    obtain rfl := List.cons.inj ex0_2 |>.1
    obtain ⟨nx0_3, yx0_3, tx0_3, wx0_3⟩ := gx0 3 (by omega)
    replace tx0_3 : DataW.trod enc Try.prog w base spare held nx0_3 33 [c3] = some yx0_3 := by simpa [cells33] using tx0_3
    obtain ⟨x0_3, ex0_3, fx0_3⟩ := rd_int Try.underlying33 tx0_3
    obtain rfl := List.cons.inj ex0_3 |>.1
    obtain ⟨nx1, yx1, tx1, wx1⟩ := gx 1 _ rfl
    replace tx1 : DataW.trod enc Try.prog w base spare held nx1 3 [c4] = some yx1 := by simpa [cells3] using tx1
    obtain ⟨x1, ex1, fx1⟩ := rd_int Try.underlying3 tx1
    obtain rfl := List.cons.inj ex1 |>.1
    exact ⟨x0_0, x0_1, x0_2, x0_3, x1, rfl, fx0_0, fx0_1, fx0_2, fx0_3, fx1⟩
def R22 (w : World) (cs : List Value) : Prop := ∃ (xa : Option Addr) (xl : Nat) (xc : Nat), cs = [.slice xa xl xc] ∧ SliceAt 5 B65 R65 w xa xl xc
theorem rd22 {H : Type} {enc : TypeId × Value → H} {w : World} {base : Nat} {spare : Nat → Bool} {held : Bool} {fuel : Nat} {cs : List Value} {x : DataW H × List MemPlace}
    (h : DataW.trod enc Try.prog w base spare held fuel 22 cs = some x) (hw : Wt Try.prog 22 x.1) : R22 w cs := by
  exact rd_slice (s := 5) (B := B65) (R := R65) Try.underlying22 cells65 bytes65 (fun _ _ _ h_ w_ => rd65 h_ w_) h hw
def R23 (w : World) (cs : List Value) : Prop := ∃ (xa : Option Addr) (xl : Nat) (xc : Nat), cs = [.slice xa xl xc] ∧ SliceAt 1 B3 R3 w xa xl xc
theorem rd23 {H : Type} {enc : TypeId × Value → H} {w : World} {base : Nat} {spare : Nat → Bool} {held : Bool} {fuel : Nat} {cs : List Value} {x : DataW H × List MemPlace}
    (h : DataW.trod enc Try.prog w base spare held fuel 23 cs = some x) (hw : Wt Try.prog 23 x.1) : R23 w cs := by
  exact rd_slice (s := 1) (B := B3) (R := R3) Try.underlying23 cells3 bytes3 (fun _ _ _ h_ w_ => rd3 h_ w_) h hw
def R4 (w : World) (cs : List Value) : Prop := ∃ (x : Bool), cs = [.bool x]
theorem rd4 {H : Type} {enc : TypeId × Value → H} {w : World} {base : Nat} {spare : Nat → Bool} {held : Bool} {fuel : Nat} {cs : List Value} {x : DataW H × List MemPlace}
    (h : DataW.trod enc Try.prog w base spare held fuel 4 cs = some x) (hw : Wt Try.prog 4 x.1) : R4 w cs := by
  exact rd_bool Try.underlying4 h
def R48 (w : World) (cs : List Value) : Prop := ∃ (xa : Option Addr) (xl : Nat) (xc : Nat), cs = [.slice xa xl xc] ∧ SliceAt 1 B4 R4 w xa xl xc
theorem rd48 {H : Type} {enc : TypeId × Value → H} {w : World} {base : Nat} {spare : Nat → Bool} {held : Bool} {fuel : Nat} {cs : List Value} {x : DataW H × List MemPlace}
    (h : DataW.trod enc Try.prog w base spare held fuel 48 cs = some x) (hw : Wt Try.prog 48 x.1) : R48 w cs := by
  exact rd_slice (s := 1) (B := B4) (R := R4) Try.underlying48 cells4 bytes4 (fun _ _ _ h_ w_ => rd4 h_ w_) h hw
def R5 (w : World) (cs : List Value) : Prop := ∃ (x : Int), cs = [.int .u8 x] ∧ (Lit.int .u8 x).wf = true
theorem rd5 {H : Type} {enc : TypeId × Value → H} {w : World} {base : Nat} {spare : Nat → Bool} {held : Bool} {fuel : Nat} {cs : List Value} {x : DataW H × List MemPlace}
    (h : DataW.trod enc Try.prog w base spare held fuel 5 cs = some x) (hw : Wt Try.prog 5 x.1) : R5 w cs := by
  exact rd_int Try.underlying5 h
end Go.Proofs.Ytkegkhhfbfegoaa
