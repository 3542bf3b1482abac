/- How the parameters of this seat's laws read: each type's cells, written out. Printed by wip/tools/mkrow.py. -/
import Derived.Test.YtfmggepbcpceiaaGreatDoorRd
import Derived.Test.YtfmggepbcpceiaaGreatDoorRows
set_option linter.unusedVariables false
set_option linter.unusedSimpArgs false
set_option maxRecDepth 100000
namespace Go.Proofs.YtfmggepbcpceiaaGreatDoor
open Go.ChangeShapes Go.WideShapes Go.Deep

theorem cells29 : Tryz.prog.cellsOf 29 = 1 := by kernel_rfl
theorem cells4 : Tryz.prog.cellsOf 4 = 1 := by kernel_rfl
theorem cells3 : Tryz.prog.cellsOf 3 = 1 := by kernel_rfl
theorem cells5 : Tryz.prog.cellsOf 5 = 1 := by kernel_rfl
theorem cells30 : Tryz.prog.cellsOf 30 = 8 := by kernel_rfl
theorem cells32 : Tryz.prog.cellsOf 32 = 12 := by kernel_rfl
theorem cells22 : Tryz.prog.cellsOf 22 = 1 := by kernel_rfl
theorem cells49 : Tryz.prog.cellsOf 49 = 2 := by kernel_rfl
theorem cells46 : Tryz.prog.cellsOf 46 = 1 := by kernel_rfl
theorem cells57 : Tryz.prog.cellsOf 57 = 14 := by kernel_rfl
theorem cells51 : Tryz.prog.cellsOf 51 = 1 := by kernel_rfl
theorem cells71 : Tryz.prog.cellsOf 71 = 17 := by kernel_rfl
theorem cells66 : Tryz.prog.cellsOf 66 = 1 := by kernel_rfl
def B32 : Nat := 24
theorem bytes32 : Tryz.prog.bytesOf 32 = B32 := by kernel_rfl
def B49 : Nat := 16
theorem bytes49 : Tryz.prog.bytesOf 49 = B49 := by kernel_rfl
def B57 : Nat := 32
theorem bytes57 : Tryz.prog.bytesOf 57 = B57 := by kernel_rfl
def B71 : Nat := 80
theorem bytes71 : Tryz.prog.bytesOf 71 = B71 := by kernel_rfl
def R29 (w : World) (cs : List Value) : Prop := ∃ (x : Int), cs = [.int .u32 x] ∧ (Lit.int .u32 x).wf = true
theorem rd29 {H : Type} {enc : TypeId × Value → H} {w : World} {base : Nat} {spare : Nat → Bool} {held : Bool} {fuel : Nat} {cs : List Value} {x : DataW H × List MemPlace}
    (h : DataW.trod enc Tryz.prog w base spare held fuel 29 cs = some x) (hw : Wt Tryz.prog 29 x.1) : R29 w cs := by
  exact rd_int Tryz.underlying29 h
def R4 (w : World) (cs : List Value) : Prop := ∃ (x : Bool), cs = [.bool x]
theorem rd4 {H : Type} {enc : TypeId × Value → H} {w : World} {base : Nat} {spare : Nat → Bool} {held : Bool} {fuel : Nat} {cs : List Value} {x : DataW H × List MemPlace}
    (h : DataW.trod enc Tryz.prog w base spare held fuel 4 cs = some x) (hw : Wt Tryz.prog 4 x.1) : R4 w cs := by
  exact rd_bool Tryz.underlying4 h
def R3 (w : World) (cs : List Value) : Prop := ∃ (x : Int), cs = [.int .i64 x] ∧ (Lit.int .i64 x).wf = true
theorem rd3 {H : Type} {enc : TypeId × Value → H} {w : World} {base : Nat} {spare : Nat → Bool} {held : Bool} {fuel : Nat} {cs : List Value} {x : DataW H × List MemPlace}
    (h : DataW.trod enc Tryz.prog w base spare held fuel 3 cs = some x) (hw : Wt Tryz.prog 3 x.1) : R3 w cs := by
  exact rd_int Tryz.underlying3 h
def R5 (w : World) (cs : List Value) : Prop := ∃ (x : Int), cs = [.int .u8 x] ∧ (Lit.int .u8 x).wf = true
theorem rd5 {H : Type} {enc : TypeId × Value → H} {w : World} {base : Nat} {spare : Nat → Bool} {held : Bool} {fuel : Nat} {cs : List Value} {x : DataW H × List MemPlace}
    (h : DataW.trod enc Tryz.prog w base spare held fuel 5 cs = some x) (hw : Wt Tryz.prog 5 x.1) : R5 w cs := by
  exact rd_int Tryz.underlying5 h
def R30 (w : World) (cs : List Value) : Prop := ∃ (x0 : Int) (x1 : Int) (x2 : Int) (x3 : Int) (x4 : Int) (x5 : Int) (x6 : Int) (x7 : Int), cs = [.int .u8 x0, .int .u8 x1, .int .u8 x2, .int .u8 x3, .int .u8 x4, .int .u8 x5, .int .u8 x6, .int .u8 x7] ∧ (Lit.int .u8 x0).wf = true ∧ (Lit.int .u8 x1).wf = true ∧ (Lit.int .u8 x2).wf = true ∧ (Lit.int .u8 x3).wf = true ∧ (Lit.int .u8 x4).wf = true ∧ (Lit.int .u8 x5).wf = true ∧ (Lit.int .u8 x6).wf = true ∧ (Lit.int .u8 x7).wf = true
theorem rd30 {H : Type} {enc : TypeId × Value → H} {w : World} {base : Nat} {spare : Nat → Bool} {held : Bool} {fuel : Nat} {cs : List Value} {x : DataW H × List MemPlace}
    (h : DataW.trod enc Tryz.prog w base spare held fuel 30 cs = some x) (hw : Wt Tryz.prog 30 x.1) : R30 w cs := by
  obtain ⟨hl, _⟩ := rd_array Tryz.underlying30 h hw
  rw [cells30] at hl
  match cs, hl, h with
  | [c0, c1, c2, c3, c4, c5, c6, c7], _, h =>
    obtain ⟨_, gx⟩ := rd_array Tryz.underlying30 h hw
    obtain ⟨nx0, yx0, tx0, wx0⟩ := gx 0 (by omega)
    replace tx0 : DataW.trod enc Tryz.prog w base spare held nx0 5 [c0] = some yx0 := by simpa [cells5] using tx0
    obtain ⟨x0, ex0, fx0⟩ := rd_int Tryz.underlying5 tx0
    obtain rfl := List.cons.inj ex0 |>.1
    obtain ⟨nx1, yx1, tx1, wx1⟩ := gx 1 (by omega)
    replace tx1 : DataW.trod enc Tryz.prog w base spare held nx1 5 [c1] = some yx1 := by simpa [cells5] using tx1
    obtain ⟨x1, ex1, fx1⟩ := rd_int Tryz.underlying5 tx1
    obtain rfl := List.cons.inj ex1 |>.1
    obtain ⟨nx2, yx2, tx2, wx2⟩ := gx 2 (by omega)
    replace tx2 : DataW.trod enc Tryz.prog w base spare held nx2 5 [c2] = some yx2 := by simpa [cells5] using tx2
    obtain ⟨x2, ex2, fx2⟩ := rd_int Tryz.underlying5 tx2
    obtain rfl := List.cons.inj ex2 |>.1
    obtain ⟨nx3, yx3, tx3, wx3⟩ := gx 3 (by omega)
    replace tx3 : DataW.trod enc Tryz.prog w base spare held nx3 5 [c3] = some yx3 := by simpa [cells5] using tx3
    obtain ⟨x3, ex3, fx3⟩ := rd_int Tryz.underlying5 tx3
    obtain rfl := List.cons.inj ex3 |>.1
    obtain ⟨nx4, yx4, tx4, wx4⟩ := gx 4 (by omega)
    replace tx4 : DataW.trod enc Tryz.prog w base spare held nx4 5 [c4] = some yx4 := by simpa [cells5] using tx4
    obtain ⟨x4, ex4, fx4⟩ := rd_int Tryz.underlying5 tx4
    obtain rfl := List.cons.inj ex4 |>.1
    obtain ⟨nx5, yx5, tx5, wx5⟩ := gx 5 (by omega)
    replace tx5 : DataW.trod enc Tryz.prog w base spare held nx5 5 [c5] = some yx5 := by simpa [cells5] using tx5
    obtain ⟨x5, ex5, fx5⟩ := rd_int Tryz.underlying5 tx5
    obtain rfl := List.cons.inj ex5 |>.1
    obtain ⟨nx6, yx6, tx6, wx6⟩ := gx 6 (by omega)
    replace tx6 : DataW.trod enc Tryz.prog w base spare held nx6 5 [c6] = some yx6 := by simpa [cells5] using tx6
    obtain ⟨x6, ex6, fx6⟩ := rd_int Tryz.underlying5 tx6
    obtain rfl := List.cons.inj ex6 |>.1
    obtain ⟨nx7, yx7, tx7, wx7⟩ := gx 7 (by omega)
    replace tx7 : DataW.trod enc Tryz.prog w base spare held nx7 5 [c7] = some yx7 := by simpa [cells5] using tx7
    obtain ⟨x7, ex7, fx7⟩ := rd_int Tryz.underlying5 tx7
    obtain rfl := List.cons.inj ex7 |>.1
    exact ⟨x0, x1, x2, x3, x4, x5, x6, x7, rfl, fx0, fx1, fx2, fx3, fx4, fx5, fx6, fx7⟩
def R32 (w : World) (cs : List Value) : Prop := ∃ (x0 : Int) (x1 : Bool) (x2 : Bool) (x3 : Int) (x4_0 : Int) (x4_1 : Int) (x4_2 : Int) (x4_3 : Int) (x4_4 : Int) (x4_5 : Int) (x4_6 : Int) (x4_7 : Int), cs = [.int .u32 x0, .bool x1, .bool x2, .int .i64 x3, .int .u8 x4_0, .int .u8 x4_1, .int .u8 x4_2, .int .u8 x4_3, .int .u8 x4_4, .int .u8 x4_5, .int .u8 x4_6, .int .u8 x4_7] ∧ (Lit.int .u32 x0).wf = true ∧ (Lit.int .i64 x3).wf = true ∧ (Lit.int .u8 x4_0).wf = true ∧ (Lit.int .u8 x4_1).wf = true ∧ (Lit.int .u8 x4_2).wf = true ∧ (Lit.int .u8 x4_3).wf = true ∧ (Lit.int .u8 x4_4).wf = true ∧ (Lit.int .u8 x4_5).wf = true ∧ (Lit.int .u8 x4_6).wf = true ∧ (Lit.int .u8 x4_7).wf = true
theorem rd32 {H : Type} {enc : TypeId × Value → H} {w : World} {base : Nat} {spare : Nat → Bool} {held : Bool} {fuel : Nat} {cs : List Value} {x : DataW H × List MemPlace}
    (h : DataW.trod enc Tryz.prog w base spare held fuel 32 cs = some x) (hw : Wt Tryz.prog 32 x.1) : R32 w cs := by
  obtain ⟨hl, _⟩ := rd_struct Tryz.underlying32 h hw
  rw [cells32] at hl
  match cs, hl, h with
  | [c0, c1, c2, c3, c4, c5, c6, c7, c8, c9, c10, c11], _, h =>
    obtain ⟨_, gx⟩ := rd_struct Tryz.underlying32 h hw
    obtain ⟨nx0, yx0, tx0, wx0⟩ := gx 0 _ rfl
    replace tx0 : DataW.trod enc Tryz.prog w base spare held nx0 29 [c0] = some yx0 := by simpa [cells29] using tx0
    obtain ⟨x0, ex0, fx0⟩ := rd_int Tryz.underlying29 tx0
    obtain rfl := List.cons.inj ex0 |>.1
    obtain ⟨nx1, yx1, tx1, wx1⟩ := gx 1 _ rfl
    replace tx1 : DataW.trod enc Tryz.prog w base spare held nx1 4 [c1] = some yx1 := by simpa [cells4] using tx1
    obtain ⟨x1, ex1⟩ := rd_bool Tryz.underlying4 tx1
    obtain rfl := List.cons.inj ex1 |>.1
    obtain ⟨nx2, yx2, tx2, wx2⟩ := gx 2 _ rfl
    replace tx2 : DataW.trod enc Tryz.prog w base spare held nx2 4 [c2] = some yx2 := by simpa [cells4] using tx2
    obtain ⟨x2, ex2⟩ := rd_bool Tryz.underlying4 tx2
    obtain rfl := List.cons.inj ex2 |>.1
    obtain ⟨nx3, yx3, tx3, wx3⟩ := gx 3 _ rfl
    replace tx3 : DataW.trod enc Tryz.prog w base spare held nx3 3 [c3] = some yx3 := by simpa [cells3] using tx3
    obtain ⟨x3, ex3, fx3⟩ := rd_int Tryz.underlying3 tx3
    obtain rfl := List.cons.inj ex3 |>.1
    obtain ⟨nx4, yx4, tx4, wx4⟩ := gx 4 _ rfl
    replace tx4 : DataW.trod enc Tryz.prog w base spare held nx4 30 [c4, c5, c6, c7, c8, c9, c10, c11] = some yx4 := by simpa [cells30] using tx4
    obtain ⟨_, gx4⟩ := rd_array Tryz.underlying30 tx4 wx4
    obtain ⟨nx4_0, yx4_0, tx4_0, wx4_0⟩ := gx4 0 (by omega)
    replace tx4_0 : DataW.trod enc Tryz.prog w base spare held nx4_0 5 [c4] = some yx4_0 := by simpa [cells5] using tx4_0
    obtain ⟨x4_0, ex4_0, fx4_0⟩ := rd_int Tryz.underlying5 tx4_0
    obtain rfl := List.cons.inj ex4_0 |>.1
    obtain ⟨nx4_1, yx4_1, tx4_1, wx4_1⟩ := gx4 1 (by omega)
    replace tx4_1 : DataW.trod enc Tryz.prog w base spare held nx4_1 5 [c5] = some yx4_1 := by simpa [cells5] using tx4_1
    obtain ⟨x4_1, ex4_1, fx4_1⟩ := rd_int Tryz.underlying5 tx4_1
    obtain rfl := List.cons.inj ex4_1 |>.1
    obtain ⟨nx4_2, yx4_2, tx4_2, wx4_2⟩ := gx4 2 (by omega)
    replace tx4_2 : DataW.trod enc Tryz.prog w base spare held nx4_2 5 [c6] = some yx4_2 := by simpa [cells5] using tx4_2
    obtain ⟨x4_2, ex4_2, fx4_2⟩ := rd_int Tryz.underlying5 tx4_2
    obtain rfl := List.cons.inj ex4_2 |>.1
    obtain ⟨nx4_3, yx4_3, tx4_3, wx4_3⟩ := gx4 3 (by omega)
    replace tx4_3 : DataW.trod enc Tryz.prog w base spare held nx4_3 5 [c7] = some yx4_3 := by simpa [cells5] using tx4_3
    obtain ⟨x4_3, ex4_3, fx4_3⟩ := rd_int Tryz.underlying5 tx4_3
    obtain rfl := List.cons.inj ex4_3 |>.1
    obtain ⟨nx4_4, yx4_4, tx4_4, wx4_4⟩ := gx4 4 (by omega)
    replace tx4_4 : DataW.trod enc Tryz.prog w base spare held nx4_4 5 [c8] = some yx4_4 := by simpa [cells5] using tx4_4
    obtain ⟨x4_4, ex4_4, fx4_4⟩ := rd_int Tryz.underlying5 tx4_4
    obtain rfl := List.cons.inj ex4_4 |>.1
    obtain ⟨nx4_5, yx4_5, tx4_5, wx4_5⟩ := gx4 5 (by omega)
    replace tx4_5 : DataW.trod enc Tryz.prog w base spare held nx4_5 5 [c9] = some yx4_5 := by simpa [cells5] using tx4_5
    obtain ⟨x4_5, ex4_5, fx4_5⟩ := rd_int Tryz.underlying5 tx4_5
    obtain rfl := List.cons.inj ex4_5 |>.1
    obtain ⟨nx4_6, yx4_6, tx4_6, wx4_6⟩ := gx4 6 (by omega)
    replace tx4_6 : DataW.trod enc Tryz.prog w base spare held nx4_6 5 [c10] = some yx4_6 := by simpa [cells5] using tx4_6
    obtain ⟨x4_6, ex4_6, fx4_6⟩ := rd_int Tryz.underlying5 tx4_6
    obtain rfl := List.cons.inj ex4_6 |>.1
    obtain ⟨nx4_7, yx4_7, tx4_7, wx4_7⟩ := gx4 7 (by omega)
    replace tx4_7 : DataW.trod enc Tryz.prog w base spare held nx4_7 5 [c11] = some yx4_7 := by simpa [cells5] using tx4_7
    obtain ⟨x4_7, ex4_7, fx4_7⟩ := rd_int Tryz.underlying5 tx4_7
    obtain rfl := List.cons.inj ex4_7 |>.1
    exact ⟨x0, x1, x2, x3, x4_0, x4_1, x4_2, x4_3, x4_4, x4_5, x4_6, x4_7, rfl, fx0, fx3, fx4_0, fx4_1, fx4_2, fx4_3, fx4_4, fx4_5, fx4_6, fx4_7⟩
def R22 (w : World) (cs : List Value) : Prop := ∃ (xa : Option Addr) (xl : Nat) (xc : Nat), cs = [.slice xa xl xc] ∧ SliceAt 12 B32 R32 w xa xl xc
theorem rd22 {H : Type} {enc : TypeId × Value → H} {w : World} {base : Nat} {spare : Nat → Bool} {held : Bool} {fuel : Nat} {cs : List Value} {x : DataW H × List MemPlace}
    (h : DataW.trod enc Tryz.prog w base spare held fuel 22 cs = some x) (hw : Wt Tryz.prog 22 x.1) : R22 w cs := by
  exact rd_slice (s := 12) (B := B32) (R := R32) Tryz.underlying22 cells32 bytes32 (fun _ _ _ h_ w_ => rd32 h_ w_) h hw
def R49 (w : World) (cs : List Value) : Prop := ∃ (x0 : Int) (x1 : Int), cs = [.int .i64 x0, .int .i64 x1] ∧ (Lit.int .i64 x0).wf = true ∧ (Lit.int .i64 x1).wf = true
theorem rd49 {H : Type} {enc : TypeId × Value → H} {w : World} {base : Nat} {spare : Nat → Bool} {held : Bool} {fuel : Nat} {cs : List Value} {x : DataW H × List MemPlace}
    (h : DataW.trod enc Tryz.prog w base spare held fuel 49 cs = some x) (hw : Wt Tryz.prog 49 x.1) : R49 w cs := by
  obtain ⟨hl, _⟩ := rd_struct Tryz.underlying49 h hw
  rw [cells49] at hl
  match cs, hl, h with
  | [c0, c1], _, h =>
    obtain ⟨_, gx⟩ := rd_struct Tryz.underlying49 h hw
    obtain ⟨nx0, yx0, tx0, wx0⟩ := gx 0 _ rfl
    replace tx0 : DataW.trod enc Tryz.prog w base spare held nx0 3 [c0] = some yx0 := by simpa [cells3] using tx0
    obtain ⟨x0, ex0, fx0⟩ := rd_int Tryz.underlying3 tx0
    obtain rfl := List.cons.inj ex0 |>.1
    obtain ⟨nx1, yx1, tx1, wx1⟩ := gx 1 _ rfl
    replace tx1 : DataW.trod enc Tryz.prog w base spare held nx1 3 [c1] = some yx1 := by simpa [cells3] using tx1
    obtain ⟨x1, ex1, fx1⟩ := rd_int Tryz.underlying3 tx1
    obtain rfl := List.cons.inj ex1 |>.1
    exact ⟨x0, x1, rfl, fx0, fx1⟩
def R46 (w : World) (cs : List Value) : Prop := ∃ (xa : Option Addr) (xl : Nat) (xc : Nat), cs = [.slice xa xl xc] ∧ SliceAt 2 B49 R49 w xa xl xc
theorem rd46 {H : Type} {enc : TypeId × Value → H} {w : World} {base : Nat} {spare : Nat → Bool} {held : Bool} {fuel : Nat} {cs : List Value} {x : DataW H × List MemPlace}
    (h : DataW.trod enc Tryz.prog w base spare held fuel 46 cs = some x) (hw : Wt Tryz.prog 46 x.1) : R46 w cs := by
  exact rd_slice (s := 2) (B := B49) (R := R49) Tryz.underlying46 cells49 bytes49 (fun _ _ _ h_ w_ => rd49 h_ w_) h hw
def R57 (w : World) (cs : List Value) : Prop := ∃ (x0 : Bool) (x1 : Bool) (x2_0 : Int) (x2_1 : Bool) (x2_2 : Bool) (x2_3 : Int) (x2_4_0 : Int) (x2_4_1 : Int) (x2_4_2 : Int) (x2_4_3 : Int) (x2_4_4 : Int) (x2_4_5 : Int) (x2_4_6 : Int) (x2_4_7 : Int), cs = [.bool x0, .bool x1, .int .u32 x2_0, .bool x2_1, .bool x2_2, .int .i64 x2_3, .int .u8 x2_4_0, .int .u8 x2_4_1, .int .u8 x2_4_2, .int .u8 x2_4_3, .int .u8 x2_4_4, .int .u8 x2_4_5, .int .u8 x2_4_6, .int .u8 x2_4_7] ∧ (Lit.int .u32 x2_0).wf = true ∧ (Lit.int .i64 x2_3).wf = true ∧ (Lit.int .u8 x2_4_0).wf = true ∧ (Lit.int .u8 x2_4_1).wf = true ∧ (Lit.int .u8 x2_4_2).wf = true ∧ (Lit.int .u8 x2_4_3).wf = true ∧ (Lit.int .u8 x2_4_4).wf = true ∧ (Lit.int .u8 x2_4_5).wf = true ∧ (Lit.int .u8 x2_4_6).wf = true ∧ (Lit.int .u8 x2_4_7).wf = true
theorem rd57 {H : Type} {enc : TypeId × Value → H} {w : World} {base : Nat} {spare : Nat → Bool} {held : Bool} {fuel : Nat} {cs : List Value} {x : DataW H × List MemPlace}
    (h : DataW.trod enc Tryz.prog w base spare held fuel 57 cs = some x) (hw : Wt Tryz.prog 57 x.1) : R57 w cs := by
  obtain ⟨hl, _⟩ := rd_struct Tryz.underlying57 h hw
  rw [cells57] at hl
  match cs, hl, h with
  | [c0, c1, c2, c3, c4, c5, c6, c7, c8, c9, c10, c11, c12, c13], _, h =>
    obtain ⟨_, gx⟩ := rd_struct Tryz.underlying57 h hw
    obtain ⟨nx0, yx0, tx0, wx0⟩ := gx 0 _ rfl
    replace tx0 : DataW.trod enc Tryz.prog w base spare held nx0 4 [c0] = some yx0 := by simpa [cells4] using tx0
    obtain ⟨x0, ex0⟩ := rd_bool Tryz.underlying4 tx0
    obtain rfl := List.cons.inj ex0 |>.1
    obtain ⟨nx1, yx1, tx1, wx1⟩ := gx 1 _ rfl
    replace tx1 : DataW.trod enc Tryz.prog w base spare held nx1 4 [c1] = some yx1 := by simpa [cells4] using tx1
    obtain ⟨x1, ex1⟩ := rd_bool Tryz.underlying4 tx1
    obtain rfl := List.cons.inj ex1 |>.1
    obtain ⟨nx2, yx2, tx2, wx2⟩ := gx 2 _ rfl
    replace tx2 : DataW.trod enc Tryz.prog w base spare held nx2 32 [c2, c3, c4, c5, c6, c7, c8, c9, c10, c11, c12, c13] = some yx2 := by simpa [cells32] using tx2
    obtain ⟨_, gx2⟩ := rd_struct Tryz.underlying32 tx2 wx2
    obtain ⟨nx2_0, yx2_0, tx2_0, wx2_0⟩ := gx2 0 _ rfl
    replace tx2_0 : DataW.trod enc Tryz.prog w base spare held nx2_0 29 [c2] = some yx2_0 := by simpa [cells29] using tx2_0
    obtain ⟨x2_0, ex2_0, fx2_0⟩ := rd_int Tryz.underlying29 tx2_0
    obtain rfl := List.cons.inj ex2_0 |>.1
    obtain ⟨nx2_1, yx2_1, tx2_1, wx2_1⟩ := gx2 1 _ rfl
    replace tx2_1 : DataW.trod enc Tryz.prog w base spare held nx2_1 4 [c3] = some yx2_1 := by simpa [cells4] using tx2_1
    obtain ⟨x2_1, ex2_1⟩ := rd_bool Tryz.underlying4 tx2_1
    obtain rfl := List.cons.inj ex2_1 |>.1
    obtain ⟨nx2_2, yx2_2, tx2_2, wx2_2⟩ := gx2 2 _ rfl
    replace tx2_2 : DataW.trod enc Tryz.prog w base spare held nx2_2 4 [c4] = some yx2_2 := by simpa [cells4] using tx2_2
    obtain ⟨x2_2, ex2_2⟩ := rd_bool Tryz.underlying4 tx2_2
    obtain rfl := List.cons.inj ex2_2 |>.1
    obtain ⟨nx2_3, yx2_3, tx2_3, wx2_3⟩ := gx2 3 _ rfl
    replace tx2_3 : DataW.trod enc Tryz.prog w base spare held nx2_3 3 [c5] = some yx2_3 := by simpa [cells3] using tx2_3
    obtain ⟨x2_3, ex2_3, fx2_3⟩ := rd_int Tryz.underlying3 tx2_3
    obtain rfl := List.cons.inj ex2_3 |>.1
    obtain ⟨nx2_4, yx2_4, tx2_4, wx2_4⟩ := gx2 4 _ rfl
    replace tx2_4 : DataW.trod enc Tryz.prog w base spare held nx2_4 30 [c6, c7, c8, c9, c10, c11, c12, c13] = some yx2_4 := by simpa [cells30] using tx2_4
    obtain ⟨_, gx2_4⟩ := rd_array Tryz.underlying30 tx2_4 wx2_4
    obtain ⟨nx2_4_0, yx2_4_0, tx2_4_0, wx2_4_0⟩ := gx2_4 0 (by omega)
    replace tx2_4_0 : DataW.trod enc Tryz.prog w base spare held nx2_4_0 5 [c6] = some yx2_4_0 := by simpa [cells5] using tx2_4_0
    obtain ⟨x2_4_0, ex2_4_0, fx2_4_0⟩ := rd_int Tryz.underlying5 tx2_4_0
    obtain rfl := List.cons.inj ex2_4_0 |>.1
    obtain ⟨nx2_4_1, yx2_4_1, tx2_4_1, wx2_4_1⟩ := gx2_4 1 (by omega)
    replace tx2_4_1 : DataW.trod enc Tryz.prog w base spare held nx2_4_1 5 [c7] = some yx2_4_1 := by simpa [cells5] using tx2_4_1
    obtain ⟨x2_4_1, ex2_4_1, fx2_4_1⟩ := rd_int Tryz.underlying5 tx2_4_1
    obtain rfl := List.cons.inj ex2_4_1 |>.1
    obtain ⟨nx2_4_2, yx2_4_2, tx2_4_2, wx2_4_2⟩ := gx2_4 2 (by omega)
    replace tx2_4_2 : DataW.trod enc Tryz.prog w base spare held nx2_4_2 5 [c8] = some yx2_4_2 := by simpa [cells5] using tx2_4_2
    obtain ⟨x2_4_2, ex2_4_2, fx2_4_2⟩ := rd_int Tryz.underlying5 tx2_4_2
    obtain rfl := List.cons.inj ex2_4_2 |>.1
    obtain ⟨nx2_4_3, yx2_4_3, tx2_4_3, wx2_4_3⟩ := gx2_4 3 (by omega)
    replace tx2_4_3 : DataW.trod enc Tryz.prog w base spare held nx2_4_3 5 [c9] = some yx2_4_3 := by simpa [cells5] using tx2_4_3
    obtain ⟨x2_4_3, ex2_4_3, fx2_4_3⟩ := rd_int Tryz.underlying5 tx2_4_3
    obtain rfl := List.cons.inj ex2_4_3 |>.1
    obtain ⟨nx2_4_4, yx2_4_4, tx2_4_4, wx2_4_4⟩ := gx2_4 4 (by omega)
    replace tx2_4_4 : DataW.trod enc Tryz.prog w base spare held nx2_4_4 5 [c10] = some yx2_4_4 := by simpa [cells5] using tx2_4_4
    obtain ⟨x2_4_4, ex2_4_4, fx2_4_4⟩ := rd_int Tryz.underlying5 tx2_4_4
    obtain rfl := List.cons.inj ex2_4_4 |>.1
    obtain ⟨nx2_4_5, yx2_4_5, tx2_4_5, wx2_4_5⟩ := gx2_4 5 (by omega)
    replace tx2_4_5 : DataW.trod enc Tryz.prog w base spare held nx2_4_5 5 [c11] = some yx2_4_5 := by simpa [cells5] using tx2_4_5
    obtain ⟨x2_4_5, ex2_4_5, fx2_4_5⟩ := rd_int Tryz.underlying5 tx2_4_5
    obtain rfl := List.cons.inj ex2_4_5 |>.1
    obtain ⟨nx2_4_6, yx2_4_6, tx2_4_6, wx2_4_6⟩ := gx2_4 6 (by omega)
    replace tx2_4_6 : DataW.trod enc Tryz.prog w base spare held nx2_4_6 5 [c12] = some yx2_4_6 := by simpa [cells5] using tx2_4_6
    obtain ⟨x2_4_6, ex2_4_6, fx2_4_6⟩ := rd_int Tryz.underlying5 tx2_4_6
    obtain rfl := List.cons.inj ex2_4_6 |>.1
    obtain ⟨nx2_4_7, yx2_4_7, tx2_4_7, wx2_4_7⟩ := gx2_4 7 (by omega)
    replace tx2_4_7 : DataW.trod enc Tryz.prog w base spare held nx2_4_7 5 [c13] = some yx2_4_7 := by simpa [cells5] using tx2_4_7
    obtain ⟨x2_4_7, ex2_4_7, fx2_4_7⟩ := rd_int Tryz.underlying5 tx2_4_7
    obtain rfl := List.cons.inj ex2_4_7 |>.1
    exact ⟨x0, x1, x2_0, x2_1, x2_2, x2_3, x2_4_0, x2_4_1, x2_4_2, x2_4_3, x2_4_4, x2_4_5, x2_4_6, x2_4_7, rfl, fx2_0, fx2_3, fx2_4_0, fx2_4_1, fx2_4_2, fx2_4_3, fx2_4_4, fx2_4_5, fx2_4_6, fx2_4_7⟩
def R51 (w : World) (cs : List Value) : Prop := ∃ (xa : Option Addr) (xl : Nat) (xc : Nat), cs = [.slice xa xl xc] ∧ SliceAt 14 B57 R57 w xa xl xc
theorem rd51 {H : Type} {enc : TypeId × Value → H} {w : World} {base : Nat} {spare : Nat → Bool} {held : Bool} {fuel : Nat} {cs : List Value} {x : DataW H × List MemPlace}
    (h : DataW.trod enc Tryz.prog w base spare held fuel 51 cs = some x) (hw : Wt Tryz.prog 51 x.1) : R51 w cs := by
  exact rd_slice (s := 14) (B := B57) (R := R57) Tryz.underlying51 cells57 bytes57 (fun _ _ _ h_ w_ => rd57 h_ w_) h hw
def R71 (w : World) (cs : List Value) : Prop := ∃ (x0 : Int) (x1 : Int) (x2 : Bool) (x3_0 : Int) (x3_1 : Bool) (x3_2 : Bool) (x3_3 : Int) (x3_4_0 : Int) (x3_4_1 : Int) (x3_4_2 : Int) (x3_4_3 : Int) (x3_4_4 : Int) (x3_4_5 : Int) (x3_4_6 : Int) (x3_4_7 : Int) (x4a : Option Addr) (x4l : Nat) (x4c : Nat) (x5 : Int), cs = [.int .i64 x0, .int .i64 x1, .bool x2, .int .u32 x3_0, .bool x3_1, .bool x3_2, .int .i64 x3_3, .int .u8 x3_4_0, .int .u8 x3_4_1, .int .u8 x3_4_2, .int .u8 x3_4_3, .int .u8 x3_4_4, .int .u8 x3_4_5, .int .u8 x3_4_6, .int .u8 x3_4_7, .slice x4a x4l x4c, .int .u8 x5] ∧ (Lit.int .i64 x0).wf = true ∧ (Lit.int .i64 x1).wf = true ∧ (Lit.int .u32 x3_0).wf = true ∧ (Lit.int .i64 x3_3).wf = true ∧ (Lit.int .u8 x3_4_0).wf = true ∧ (Lit.int .u8 x3_4_1).wf = true ∧ (Lit.int .u8 x3_4_2).wf = true ∧ (Lit.int .u8 x3_4_3).wf = true ∧ (Lit.int .u8 x3_4_4).wf = true ∧ (Lit.int .u8 x3_4_5).wf = true ∧ (Lit.int .u8 x3_4_6).wf = true ∧ (Lit.int .u8 x3_4_7).wf = true ∧ SliceAt 2 B49 R49 w x4a x4l x4c ∧ (Lit.int .u8 x5).wf = true
theorem rd71 {H : Type} {enc : TypeId × Value → H} {w : World} {base : Nat} {spare : Nat → Bool} {held : Bool} {fuel : Nat} {cs : List Value} {x : DataW H × List MemPlace}
    (h : DataW.trod enc Tryz.prog w base spare held fuel 71 cs = some x) (hw : Wt Tryz.prog 71 x.1) : R71 w cs := by
  obtain ⟨hl, _⟩ := rd_struct Tryz.underlying71 h hw
  rw [cells71] at hl
  match cs, hl, h with
  | [c0, c1, c2, c3, c4, c5, c6, c7, c8, c9, c10, c11, c12, c13, c14, c15, c16], _, h =>
    obtain ⟨_, gx⟩ := rd_struct Tryz.underlying71 h hw
    obtain ⟨nx0, yx0, tx0, wx0⟩ := gx 0 _ rfl
    replace tx0 : DataW.trod enc Tryz.prog w base spare held nx0 3 [c0] = some yx0 := by simpa [cells3] using tx0
    obtain ⟨x0, ex0, fx0⟩ := rd_int Tryz.underlying3 tx0
    obtain rfl := List.cons.inj ex0 |>.1
    obtain ⟨nx1, yx1, tx1, wx1⟩ := gx 1 _ rfl
    replace tx1 : DataW.trod enc Tryz.prog w base spare held nx1 3 [c1] = some yx1 := by simpa [cells3] using tx1
    obtain ⟨x1, ex1, fx1⟩ := rd_int Tryz.underlying3 tx1
    obtain rfl := List.cons.inj ex1 |>.1
    obtain ⟨nx2, yx2, tx2, wx2⟩ := gx 2 _ rfl
    replace tx2 : DataW.trod enc Tryz.prog w base spare held nx2 4 [c2] = some yx2 := by simpa [cells4] using tx2
    obtain ⟨x2, ex2⟩ := rd_bool Tryz.underlying4 tx2
    obtain rfl := List.cons.inj ex2 |>.1
    obtain ⟨nx3, yx3, tx3, wx3⟩ := gx 3 _ rfl
    replace tx3 : DataW.trod enc Tryz.prog w base spare held nx3 32 [c3, c4, c5, c6, c7, c8, c9, c10, c11, c12, c13, c14] = some yx3 := by simpa [cells32] using tx3
    obtain ⟨_, gx3⟩ := rd_struct Tryz.underlying32 tx3 wx3
    obtain ⟨nx3_0, yx3_0, tx3_0, wx3_0⟩ := gx3 0 _ rfl
    replace tx3_0 : DataW.trod enc Tryz.prog w base spare held nx3_0 29 [c3] = some yx3_0 := by simpa [cells29] using tx3_0
    obtain ⟨x3_0, ex3_0, fx3_0⟩ := rd_int Tryz.underlying29 tx3_0
    obtain rfl := List.cons.inj ex3_0 |>.1
    obtain ⟨nx3_1, yx3_1, tx3_1, wx3_1⟩ := gx3 1 _ rfl
    replace tx3_1 : DataW.trod enc Tryz.prog w base spare held nx3_1 4 [c4] = some yx3_1 := by simpa [cells4] using tx3_1
    obtain ⟨x3_1, ex3_1⟩ := rd_bool Tryz.underlying4 tx3_1
    obtain rfl := List.cons.inj ex3_1 |>.1
    obtain ⟨nx3_2, yx3_2, tx3_2, wx3_2⟩ := gx3 2 _ rfl
    replace tx3_2 : DataW.trod enc Tryz.prog w base spare held nx3_2 4 [c5] = some yx3_2 := by simpa [cells4] using tx3_2
    obtain ⟨x3_2, ex3_2⟩ := rd_bool Tryz.underlying4 tx3_2
    obtain rfl := List.cons.inj ex3_2 |>.1
    obtain ⟨nx3_3, yx3_3, tx3_3, wx3_3⟩ := gx3 3 _ rfl
    replace tx3_3 : DataW.trod enc Tryz.prog w base spare held nx3_3 3 [c6] = some yx3_3 := by simpa [cells3] using tx3_3
    obtain ⟨x3_3, ex3_3, fx3_3⟩ := rd_int Tryz.underlying3 tx3_3
    obtain rfl := List.cons.inj ex3_3 |>.1
    obtain ⟨nx3_4, yx3_4, tx3_4, wx3_4⟩ := gx3 4 _ rfl
    replace tx3_4 : DataW.trod enc Tryz.prog w base spare held nx3_4 30 [c7, c8, c9, c10, c11, c12, c13, c14] = some yx3_4 := by simpa [cells30] using tx3_4
    obtain ⟨_, gx3_4⟩ := rd_array Tryz.underlying30 tx3_4 wx3_4
    obtain ⟨nx3_4_0, yx3_4_0, tx3_4_0, wx3_4_0⟩ := gx3_4 0 (by omega)
    replace tx3_4_0 : DataW.trod enc Tryz.prog w base spare held nx3_4_0 5 [c7] = some yx3_4_0 := by simpa [cells5] using tx3_4_0
    obtain ⟨x3_4_0, ex3_4_0, fx3_4_0⟩ := rd_int Tryz.underlying5 tx3_4_0
    obtain rfl := List.cons.inj ex3_4_0 |>.1
    obtain ⟨nx3_4_1, yx3_4_1, tx3_4_1, wx3_4_1⟩ := gx3_4 1 (by omega)
    replace tx3_4_1 : DataW.trod enc Tryz.prog w base spare held nx3_4_1 5 [c8] = some yx3_4_1 := by simpa [cells5] using tx3_4_1
    obtain ⟨x3_4_1, ex3_4_1, fx3_4_1⟩ := rd_int Tryz.underlying5 tx3_4_1
    obtain rfl := List.cons.inj ex3_4_1 |>.1
    obtain ⟨nx3_4_2, yx3_4_2, tx3_4_2, wx3_4_2⟩ := gx3_4 2 (by omega)
    replace tx3_4_2 : DataW.trod enc Tryz.prog w base spare held nx3_4_2 5 [c9] = some yx3_4_2 := by simpa [cells5] using tx3_4_2
    obtain ⟨x3_4_2, ex3_4_2, fx3_4_2⟩ := rd_int Tryz.underlying5 tx3_4_2
    obtain rfl := List.cons.inj ex3_4_2 |>.1
    obtain ⟨nx3_4_3, yx3_4_3, tx3_4_3, wx3_4_3⟩ := gx3_4 3 (by omega)
    replace tx3_4_3 : DataW.trod enc Tryz.prog w base spare held nx3_4_3 5 [c10] = some yx3_4_3 := by simpa [cells5] using tx3_4_3
    obtain ⟨x3_4_3, ex3_4_3, fx3_4_3⟩ := rd_int Tryz.underlying5 tx3_4_3
    obtain rfl := List.cons.inj ex3_4_3 |>.1
    obtain ⟨nx3_4_4, yx3_4_4, tx3_4_4, wx3_4_4⟩ := gx3_4 4 (by omega)
    replace tx3_4_4 : DataW.trod enc Tryz.prog w base spare held nx3_4_4 5 [c11] = some yx3_4_4 := by simpa [cells5] using tx3_4_4
    obtain ⟨x3_4_4, ex3_4_4, fx3_4_4⟩ := rd_int Tryz.underlying5 tx3_4_4
    obtain rfl := List.cons.inj ex3_4_4 |>.1
    obtain ⟨nx3_4_5, yx3_4_5, tx3_4_5, wx3_4_5⟩ := gx3_4 5 (by omega)
    replace tx3_4_5 : DataW.trod enc Tryz.prog w base spare held nx3_4_5 5 [c12] = some yx3_4_5 := by simpa [cells5] using tx3_4_5
    obtain ⟨x3_4_5, ex3_4_5, fx3_4_5⟩ := rd_int Tryz.underlying5 tx3_4_5
    obtain rfl := List.cons.inj ex3_4_5 |>.1
    obtain ⟨nx3_4_6, yx3_4_6, tx3_4_6, wx3_4_6⟩ := gx3_4 6 (by omega)
    replace tx3_4_6 : DataW.trod enc Tryz.prog w base spare held nx3_4_6 5 [c13] = some yx3_4_6 := by simpa [cells5] using tx3_4_6
    obtain ⟨x3_4_6, ex3_4_6, fx3_4_6⟩ := rd_int Tryz.underlying5 tx3_4_6
    obtain rfl := List.cons.inj ex3_4_6 |>.1
    obtain ⟨nx3_4_7, yx3_4_7, tx3_4_7, wx3_4_7⟩ := gx3_4 7 (by omega)
    replace tx3_4_7 : DataW.trod enc Tryz.prog w base spare held nx3_4_7 5 [c14] = some yx3_4_7 := by simpa [cells5] using tx3_4_7
    obtain ⟨x3_4_7, ex3_4_7, fx3_4_7⟩ := rd_int Tryz.underlying5 tx3_4_7
    obtain rfl := List.cons.inj ex3_4_7 |>.1
    obtain ⟨nx4, yx4, tx4, wx4⟩ := gx 4 _ rfl
    replace tx4 : DataW.trod enc Tryz.prog w base spare held nx4 46 [c15] = some yx4 := by simpa [cells46] using tx4
    obtain ⟨x4a, x4l, x4c, ex4, fx4⟩ := rd_slice (s := 2) (B := B49) (R := R49) Tryz.underlying46 cells49 bytes49 (fun _ _ _ h_ w_ => rd49 h_ w_) tx4 wx4
    obtain rfl := List.cons.inj ex4 |>.1
    obtain ⟨nx5, yx5, tx5, wx5⟩ := gx 5 _ rfl
    replace tx5 : DataW.trod enc Tryz.prog w base spare held nx5 5 [c16] = some yx5 := by simpa [cells5] using tx5
    obtain ⟨x5, ex5, fx5⟩ := rd_int Tryz.underlying5 tx5
    obtain rfl := List.cons.inj ex5 |>.1
    exact ⟨x0, x1, x2, x3_0, x3_1, x3_2, x3_3, x3_4_0, x3_4_1, x3_4_2, x3_4_3, x3_4_4, x3_4_5, x3_4_6, x3_4_7, x4a, x4l, x4c, x5, rfl, fx0, fx1, fx3_0, fx3_3, fx3_4_0, fx3_4_1, fx3_4_2, fx3_4_3, fx3_4_4, fx3_4_5, fx3_4_6, fx3_4_7, fx4, fx5⟩
def R66 (w : World) (cs : List Value) : Prop := ∃ (xa : Option Addr) (xl : Nat) (xc : Nat), cs = [.slice xa xl xc] ∧ SliceAt 17 B71 R71 w xa xl xc
theorem rd66 {H : Type} {enc : TypeId × Value → H} {w : World} {base : Nat} {spare : Nat → Bool} {held : Bool} {fuel : Nat} {cs : List Value} {x : DataW H × List MemPlace}
    (h : DataW.trod enc Tryz.prog w base spare held fuel 66 cs = some x) (hw : Wt Tryz.prog 66 x.1) : R66 w cs := by
  exact rd_slice (s := 17) (B := B71) (R := R71) Tryz.underlying66 cells71 bytes71 (fun _ _ _ h_ w_ => rd71 h_ w_) h hw
end Go.Proofs.YtfmggepbcpceiaaGreatDoor
