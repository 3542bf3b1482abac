/- How the parameters of this seat's laws read: each type's cells, written out. Printed by wip/tools/mkrow.py. -/
import Derived.Test.YthgpikgbhkcnbaaDoorRd
import Derived.Test.YthgpikgbhkcnbaaDoorRows
set_option linter.unusedVariables false
set_option linter.unusedSimpArgs false
set_option maxRecDepth 100000
namespace Go.Proofs.YthgpikgbhkcnbaaDoor
open Go.ChangeShapes Go.WideShapes Go.Deep

theorem cells23 : Tryd.prog.cellsOf 23 = 1 := by kernel_rfl
theorem cells4 : Tryd.prog.cellsOf 4 = 1 := by kernel_rfl
theorem cells33 : Tryd.prog.cellsOf 33 = 3 := by kernel_rfl
theorem cells22 : Tryd.prog.cellsOf 22 = 1 := by kernel_rfl
theorem cells3 : Tryd.prog.cellsOf 3 = 1 := by kernel_rfl
theorem cells5 : Tryd.prog.cellsOf 5 = 1 := by kernel_rfl
theorem cells24 : Tryd.prog.cellsOf 24 = 8 := by kernel_rfl
theorem cells26 : Tryd.prog.cellsOf 26 = 12 := by kernel_rfl
theorem cells36 : Tryd.prog.cellsOf 36 = 1 := by kernel_rfl
theorem cells46 : Tryd.prog.cellsOf 46 = 3 := by kernel_rfl
theorem cells49 : Tryd.prog.cellsOf 49 = 14 := by kernel_rfl
theorem cells47 : Tryd.prog.cellsOf 47 = 1 := by kernel_rfl
def B26 : Nat := 24
theorem bytes26 : Tryd.prog.bytesOf 26 = B26 := by kernel_rfl
def B33 : Nat := 12
theorem bytes33 : Tryd.prog.bytesOf 33 = B33 := by kernel_rfl
def B49 : Nat := 40
theorem bytes49 : Tryd.prog.bytesOf 49 = B49 := by kernel_rfl
def R23 (w : World) (cs : List Value) : Prop := ∃ (x : Int), cs = [.int .u32 x] ∧ (Lit.int .u32 x).wf = true
theorem rd23 {H : Type} {enc : TypeId × Value → H} {w : World} {base : Nat} {spare : Nat → Bool} {held : Bool} {fuel : Nat} {cs : List Value} {x : DataW H × List MemPlace}
    (h : DataW.trod enc Tryd.prog w base spare held fuel 23 cs = some x) (hw : Wt Tryd.prog 23 x.1) : R23 w cs := by
  exact rd_int Tryd.underlying23 h
def R4 (w : World) (cs : List Value) : Prop := ∃ (x : Bool), cs = [.bool x]
theorem rd4 {H : Type} {enc : TypeId × Value → H} {w : World} {base : Nat} {spare : Nat → Bool} {held : Bool} {fuel : Nat} {cs : List Value} {x : DataW H × List MemPlace}
    (h : DataW.trod enc Tryd.prog w base spare held fuel 4 cs = some x) (hw : Wt Tryd.prog 4 x.1) : R4 w cs := by
  exact rd_bool Tryd.underlying4 h
def R33 (w : World) (cs : List Value) : Prop := ∃ (x0 : Int) (x1 : Int) (x2 : Bool), cs = [.int .u32 x0, .int .u32 x1, .bool x2] ∧ (Lit.int .u32 x0).wf = true ∧ (Lit.int .u32 x1).wf = true
theorem rd33 {H : Type} {enc : TypeId × Value → H} {w : World} {base : Nat} {spare : Nat → Bool} {held : Bool} {fuel : Nat} {cs : List Value} {x : DataW H × List MemPlace}
    (h : DataW.trod enc Tryd.prog w base spare held fuel 33 cs = some x) (hw : Wt Tryd.prog 33 x.1) : R33 w cs := by
  obtain ⟨hl, _⟩ := rd_struct Tryd.underlying33 h hw
  rw [cells33] at hl
  match cs, hl, h with
  | [c0, c1, c2], _, h =>
    obtain ⟨_, gx⟩ := rd_struct Tryd.underlying33 h hw
    obtain ⟨nx0, yx0, tx0, wx0⟩ := gx 0 _ rfl
    replace tx0 : DataW.trod enc Tryd.prog w base spare held nx0 23 [c0] = some yx0 := by simpa [cells23] using tx0
    obtain ⟨x0, ex0, fx0⟩ := rd_int Tryd.underlying23 tx0
    obtain rfl := List.cons.inj ex0 |>.1
    obtain ⟨nx1, yx1, tx1, wx1⟩ := gx 1 _ rfl
    replace tx1 : DataW.trod enc Tryd.prog w base spare held nx1 23 [c1] = some yx1 := by simpa [cells23] using tx1
    obtain ⟨x1, ex1, fx1⟩ := rd_int Tryd.underlying23 tx1
    obtain rfl := List.cons.inj ex1 |>.1
    obtain ⟨nx2, yx2, tx2, wx2⟩ := gx 2 _ rfl
    replace tx2 : DataW.trod enc Tryd.prog w base spare held nx2 4 [c2] = some yx2 := by simpa [cells4] using tx2
    obtain ⟨x2, ex2⟩ := rd_bool Tryd.underlying4 tx2
    obtain rfl := List.cons.inj ex2 |>.1
    exact ⟨x0, x1, x2, rfl, fx0, fx1⟩
def R22 (w : World) (cs : List Value) : Prop := ∃ (xa : Option Addr) (xl : Nat) (xc : Nat), cs = [.slice xa xl xc] ∧ SliceAt 3 B33 R33 w xa xl xc
theorem rd22 {H : Type} {enc : TypeId × Value → H} {w : World} {base : Nat} {spare : Nat → Bool} {held : Bool} {fuel : Nat} {cs : List Value} {x : DataW H × List MemPlace}
    (h : DataW.trod enc Tryd.prog w base spare held fuel 22 cs = some x) (hw : Wt Tryd.prog 22 x.1) : R22 w cs := by
  exact rd_slice (s := 3) (B := B33) (R := R33) Tryd.underlying22 cells33 bytes33 (fun _ _ _ h_ w_ => rd33 h_ w_) h hw
def R3 (w : World) (cs : List Value) : Prop := ∃ (x : Int), cs = [.int .i64 x] ∧ (Lit.int .i64 x).wf = true
theorem rd3 {H : Type} {enc : TypeId × Value → H} {w : World} {base : Nat} {spare : Nat → Bool} {held : Bool} {fuel : Nat} {cs : List Value} {x : DataW H × List MemPlace}
    (h : DataW.trod enc Tryd.prog w base spare held fuel 3 cs = some x) (hw : Wt Tryd.prog 3 x.1) : R3 w cs := by
  exact rd_int Tryd.underlying3 h
def R5 (w : World) (cs : List Value) : Prop := ∃ (x : Int), cs = [.int .u8 x] ∧ (Lit.int .u8 x).wf = true
theorem rd5 {H : Type} {enc : TypeId × Value → H} {w : World} {base : Nat} {spare : Nat → Bool} {held : Bool} {fuel : Nat} {cs : List Value} {x : DataW H × List MemPlace}
    (h : DataW.trod enc Tryd.prog w base spare held fuel 5 cs = some x) (hw : Wt Tryd.prog 5 x.1) : R5 w cs := by
  exact rd_int Tryd.underlying5 h
def R24 (w : World) (cs : List Value) : Prop := ∃ (x0 : Int) (x1 : Int) (x2 : Int) (x3 : Int) (x4 : Int) (x5 : Int) (x6 : Int) (x7 : Int), cs = [.int .u8 x0, .int .u8 x1, .int .u8 x2, .int .u8 x3, .int .u8 x4, .int .u8 x5, .int .u8 x6, .int .u8 x7] ∧ (Lit.int .u8 x0).wf = true ∧ (Lit.int .u8 x1).wf = true ∧ (Lit.int .u8 x2).wf = true ∧ (Lit.int .u8 x3).wf = true ∧ (Lit.int .u8 x4).wf = true ∧ (Lit.int .u8 x5).wf = true ∧ (Lit.int .u8 x6).wf = true ∧ (Lit.int .u8 x7).wf = true
theorem rd24 {H : Type} {enc : TypeId × Value → H} {w : World} {base : Nat} {spare : Nat → Bool} {held : Bool} {fuel : Nat} {cs : List Value} {x : DataW H × List MemPlace}
    (h : DataW.trod enc Tryd.prog w base spare held fuel 24 cs = some x) (hw : Wt Tryd.prog 24 x.1) : R24 w cs := by
  obtain ⟨hl, _⟩ := rd_array Tryd.underlying24 h hw
  rw [cells24] at hl
  match cs, hl, h with
  | [c0, c1, c2, c3, c4, c5, c6, c7], _, h =>
    obtain ⟨_, gx⟩ := rd_array Tryd.underlying24 h hw
    obtain ⟨nx0, yx0, tx0, wx0⟩ := gx 0 (by omega)
    replace tx0 : DataW.trod enc Tryd.prog w base spare held nx0 5 [c0] = some yx0 := by simpa [cells5] using tx0
    obtain ⟨x0, ex0, fx0⟩ := rd_int Tryd.underlying5 tx0
    obtain rfl := List.cons.inj ex0 |>.1
    obtain ⟨nx1, yx1, tx1, wx1⟩ := gx 1 (by omega)
    replace tx1 : DataW.trod enc Tryd.prog w base spare held nx1 5 [c1] = some yx1 := by simpa [cells5] using tx1
    obtain ⟨x1, ex1, fx1⟩ := rd_int Tryd.underlying5 tx1
    obtain rfl := List.cons.inj ex1 |>.1
    obtain ⟨nx2, yx2, tx2, wx2⟩ := gx 2 (by omega)
    replace tx2 : DataW.trod enc Tryd.prog w base spare held nx2 5 [c2] = some yx2 := by simpa [cells5] using tx2
    obtain ⟨x2, ex2, fx2⟩ := rd_int Tryd.underlying5 tx2
    obtain rfl := List.cons.inj ex2 |>.1
    obtain ⟨nx3, yx3, tx3, wx3⟩ := gx 3 (by omega)
    replace tx3 : DataW.trod enc Tryd.prog w base spare held nx3 5 [c3] = some yx3 := by simpa [cells5] using tx3
    obtain ⟨x3, ex3, fx3⟩ := rd_int Tryd.underlying5 tx3
    obtain rfl := List.cons.inj ex3 |>.1
    obtain ⟨nx4, yx4, tx4, wx4⟩ := gx 4 (by omega)
    replace tx4 : DataW.trod enc Tryd.prog w base spare held nx4 5 [c4] = some yx4 := by simpa [cells5] using tx4
    obtain ⟨x4, ex4, fx4⟩ := rd_int Tryd.underlying5 tx4
    obtain rfl := List.cons.inj ex4 |>.1
    obtain ⟨nx5, yx5, tx5, wx5⟩ := gx 5 (by omega)
    replace tx5 : DataW.trod enc Tryd.prog w base spare held nx5 5 [c5] = some yx5 := by simpa [cells5] using tx5
    obtain ⟨x5, ex5, fx5⟩ := rd_int Tryd.underlying5 tx5
    obtain rfl := List.cons.inj ex5 |>.1
    obtain ⟨nx6, yx6, tx6, wx6⟩ := gx 6 (by omega)
    replace tx6 : DataW.trod enc Tryd.prog w base spare held nx6 5 [c6] = some yx6 := by simpa [cells5] using tx6
    obtain ⟨x6, ex6, fx6⟩ := rd_int Tryd.underlying5 tx6
    obtain rfl := List.cons.inj ex6 |>.1
    obtain ⟨nx7, yx7, tx7, wx7⟩ := gx 7 (by omega)
    replace tx7 : DataW.trod enc Tryd.prog w base spare held nx7 5 [c7] = some yx7 := by simpa [cells5] using tx7
    obtain ⟨x7, ex7, fx7⟩ := rd_int Tryd.underlying5 tx7
    obtain rfl := List.cons.inj ex7 |>.1
    exact ⟨x0, x1, x2, x3, x4, x5, x6, x7, rfl, fx0, fx1, fx2, fx3, fx4, fx5, fx6, fx7⟩
def R26 (w : World) (cs : List Value) : Prop := ∃ (x0 : Int) (x1 : Bool) (x2 : Bool) (x3 : Int) (x4_0 : Int) (x4_1 : Int) (x4_2 : Int) (x4_3 : Int) (x4_4 : Int) (x4_5 : Int) (x4_6 : Int) (x4_7 : Int), cs = [.int .u32 x0, .bool x1, .bool x2, .int .i64 x3, .int .u8 x4_0, .int .u8 x4_1, .int .u8 x4_2, .int .u8 x4_3, .int .u8 x4_4, .int .u8 x4_5, .int .u8 x4_6, .int .u8 x4_7] ∧ (Lit.int .u32 x0).wf = true ∧ (Lit.int .i64 x3).wf = true ∧ (Lit.int .u8 x4_0).wf = true ∧ (Lit.int .u8 x4_1).wf = true ∧ (Lit.int .u8 x4_2).wf = true ∧ (Lit.int .u8 x4_3).wf = true ∧ (Lit.int .u8 x4_4).wf = true ∧ (Lit.int .u8 x4_5).wf = true ∧ (Lit.int .u8 x4_6).wf = true ∧ (Lit.int .u8 x4_7).wf = true
theorem rd26 {H : Type} {enc : TypeId × Value → H} {w : World} {base : Nat} {spare : Nat → Bool} {held : Bool} {fuel : Nat} {cs : List Value} {x : DataW H × List MemPlace}
    (h : DataW.trod enc Tryd.prog w base spare held fuel 26 cs = some x) (hw : Wt Tryd.prog 26 x.1) : R26 w cs := by
  obtain ⟨hl, _⟩ := rd_struct Tryd.underlying26 h hw
  rw [cells26] at hl
  match cs, hl, h with
  | [c0, c1, c2, c3, c4, c5, c6, c7, c8, c9, c10, c11], _, h =>
    obtain ⟨_, gx⟩ := rd_struct Tryd.underlying26 h hw
    obtain ⟨nx0, yx0, tx0, wx0⟩ := gx 0 _ rfl
    replace tx0 : DataW.trod enc Tryd.prog w base spare held nx0 23 [c0] = some yx0 := by simpa [cells23] using tx0
    obtain ⟨x0, ex0, fx0⟩ := rd_int Tryd.underlying23 tx0
    obtain rfl := List.cons.inj ex0 |>.1
    obtain ⟨nx1, yx1, tx1, wx1⟩ := gx 1 _ rfl
    replace tx1 : DataW.trod enc Tryd.prog w base spare held nx1 4 [c1] = some yx1 := by simpa [cells4] using tx1
    obtain ⟨x1, ex1⟩ := rd_bool Tryd.underlying4 tx1
    obtain rfl := List.cons.inj ex1 |>.1
    obtain ⟨nx2, yx2, tx2, wx2⟩ := gx 2 _ rfl
    replace tx2 : DataW.trod enc Tryd.prog w base spare held nx2 4 [c2] = some yx2 := by simpa [cells4] using tx2
    obtain ⟨x2, ex2⟩ := rd_bool Tryd.underlying4 tx2
    obtain rfl := List.cons.inj ex2 |>.1
    obtain ⟨nx3, yx3, tx3, wx3⟩ := gx 3 _ rfl
    replace tx3 : DataW.trod enc Tryd.prog w base spare held nx3 3 [c3] = some yx3 := by simpa [cells3] using tx3
    obtain ⟨x3, ex3, fx3⟩ := rd_int Tryd.underlying3 tx3
    obtain rfl := List.cons.inj ex3 |>.1
    obtain ⟨nx4, yx4, tx4, wx4⟩ := gx 4 _ rfl
    replace tx4 : DataW.trod enc Tryd.prog w base spare held nx4 24 [c4, c5, c6, c7, c8, c9, c10, c11] = some yx4 := by simpa [cells24] using tx4
    obtain ⟨_, gx4⟩ := rd_array Tryd.underlying24 tx4 wx4
    obtain ⟨nx4_0, yx4_0, tx4_0, wx4_0⟩ := gx4 0 (by omega)
    replace tx4_0 : DataW.trod enc Tryd.prog w base spare held nx4_0 5 [c4] = some yx4_0 := by simpa [cells5] using tx4_0
    obtain ⟨x4_0, ex4_0, fx4_0⟩ := rd_int Tryd.underlying5 tx4_0
    obtain rfl := List.cons.inj ex4_0 |>.1
    obtain ⟨nx4_1, yx4_1, tx4_1, wx4_1⟩ := gx4 1 (by omega)
    replace tx4_1 : DataW.trod enc Tryd.prog w base spare held nx4_1 5 [c5] = some yx4_1 := by simpa [cells5] using tx4_1
    obtain ⟨x4_1, ex4_1, fx4_1⟩ := rd_int Tryd.underlying5 tx4_1
    obtain rfl := List.cons.inj ex4_1 |>.1
    obtain ⟨nx4_2, yx4_2, tx4_2, wx4_2⟩ := gx4 2 (by omega)
    replace tx4_2 : DataW.trod enc Tryd.prog w base spare held nx4_2 5 [c6] = some yx4_2 := by simpa [cells5] using tx4_2
    obtain ⟨x4_2, ex4_2, fx4_2⟩ := rd_int Tryd.underlying5 tx4_2
    obtain rfl := List.cons.inj ex4_2 |>.1
    obtain ⟨nx4_3, yx4_3, tx4_3, wx4_3⟩ := gx4 3 (by omega)
    replace tx4_3 : DataW.trod enc Tryd.prog w base spare held nx4_3 5 [c7] = some yx4_3 := by simpa [cells5] using tx4_3
    obtain ⟨x4_3, ex4_3, fx4_3⟩ := rd_int Tryd.underlying5 tx4_3
    obtain rfl := List.cons.inj ex4_3 |>.1
    obtain ⟨nx4_4, yx4_4, tx4_4, wx4_4⟩ := gx4 4 (by omega)
    replace tx4_4 : DataW.trod enc Tryd.prog w base spare held nx4_4 5 [c8] = some yx4_4 := by simpa [cells5] using tx4_4
    obtain ⟨x4_4, ex4_4, fx4_4⟩ := rd_int Tryd.underlying5 tx4_4
    obtain rfl := List.cons.inj ex4_4 |>.1
    obtain ⟨nx4_5, yx4_5, tx4_5, wx4_5⟩ := gx4 5 (by omega)
    replace tx4_5 : DataW.trod enc Tryd.prog w base spare held nx4_5 5 [c9] = some yx4_5 := by simpa [cells5] using tx4_5
    obtain ⟨x4_5, ex4_5, fx4_5⟩ := rd_int Tryd.underlying5 tx4_5
    obtain rfl := List.cons.inj ex4_5 |>.1
    obtain ⟨nx4_6, yx4_6, tx4_6, wx4_6⟩ := gx4 6 (by omega)
    replace tx4_6 : DataW.trod enc Tryd.prog w base spare held nx4_6 5 [c10] = some yx4_6 := by simpa [cells5] using tx4_6
    obtain ⟨x4_6, ex4_6, fx4_6⟩ := rd_int Tryd.underlying5 tx4_6
    obtain rfl := List.cons.inj ex4_6 |>.1
    obtain ⟨nx4_7, yx4_7, tx4_7, wx4_7⟩ := gx4 7 (by omega)
    replace tx4_7 : DataW.trod enc Tryd.prog w base spare held nx4_7 5 [c11] = some yx4_7 := by simpa [cells5] using tx4_7
    obtain ⟨x4_7, ex4_7, fx4_7⟩ := rd_int Tryd.underlying5 tx4_7
    obtain rfl := List.cons.inj ex4_7 |>.1
    exact ⟨x0, x1, x2, x3, x4_0, x4_1, x4_2, x4_3, x4_4, x4_5, x4_6, x4_7, rfl, fx0, fx3, fx4_0, fx4_1, fx4_2, fx4_3, fx4_4, fx4_5, fx4_6, fx4_7⟩
def R36 (w : World) (cs : List Value) : Prop := ∃ (xa : Option Addr) (xl : Nat) (xc : Nat), cs = [.slice xa xl xc] ∧ SliceAt 12 B26 R26 w xa xl xc
theorem rd36 {H : Type} {enc : TypeId × Value → H} {w : World} {base : Nat} {spare : Nat → Bool} {held : Bool} {fuel : Nat} {cs : List Value} {x : DataW H × List MemPlace}
    (h : DataW.trod enc Tryd.prog w base spare held fuel 36 cs = some x) (hw : Wt Tryd.prog 36 x.1) : R36 w cs := by
  exact rd_slice (s := 12) (B := B26) (R := R26) Tryd.underlying36 cells26 bytes26 (fun _ _ _ h_ w_ => rd26 h_ w_) h hw
def R46 (w : World) (cs : List Value) : Prop := ∃ (x0 : Int) (x1 : Int) (x2a : Option Addr) (x2l : Nat) (x2c : Nat), cs = [.int .i64 x0, .int .i64 x1, .slice x2a x2l x2c] ∧ (Lit.int .i64 x0).wf = true ∧ (Lit.int .i64 x1).wf = true ∧ SliceAt 3 B33 R33 w x2a x2l x2c
theorem rd46 {H : Type} {enc : TypeId × Value → H} {w : World} {base : Nat} {spare : Nat → Bool} {held : Bool} {fuel : Nat} {cs : List Value} {x : DataW H × List MemPlace}
    (h : DataW.trod enc Tryd.prog w base spare held fuel 46 cs = some x) (hw : Wt Tryd.prog 46 x.1) : R46 w cs := by
  obtain ⟨hl, _⟩ := rd_struct Tryd.underlying46 h hw
  rw [cells46] at hl
  match cs, hl, h with
  | [c0, c1, c2], _, h =>
    obtain ⟨_, gx⟩ := rd_struct Tryd.underlying46 h hw
    obtain ⟨nx0, yx0, tx0, wx0⟩ := gx 0 _ rfl
    replace tx0 : DataW.trod enc Tryd.prog w base spare held nx0 3 [c0] = some yx0 := by simpa [cells3] using tx0
    obtain ⟨x0, ex0, fx0⟩ := rd_int Tryd.underlying3 tx0
    obtain rfl := List.cons.inj ex0 |>.1
    obtain ⟨nx1, yx1, tx1, wx1⟩ := gx 1 _ rfl
    replace tx1 : DataW.trod enc Tryd.prog w base spare held nx1 3 [c1] = some yx1 := by simpa [cells3] using tx1
    obtain ⟨x1, ex1, fx1⟩ := rd_int Tryd.underlying3 tx1
    obtain rfl := List.cons.inj ex1 |>.1
    obtain ⟨nx2, yx2, tx2, wx2⟩ := gx 2 _ rfl
    replace tx2 : DataW.trod enc Tryd.prog w base spare held nx2 22 [c2] = some yx2 := by simpa [cells22] using tx2
    obtain ⟨x2a, x2l, x2c, ex2, fx2⟩ := rd_slice (s := 3) (B := B33) (R := R33) Tryd.underlying22 cells33 bytes33 (fun _ _ _ h_ w_ => rd33 h_ w_) tx2 wx2
    obtain rfl := List.cons.inj ex2 |>.1
    exact ⟨x0, x1, x2a, x2l, x2c, rfl, fx0, fx1, fx2⟩
def R49 (w : World) (cs : List Value) : Prop := ∃ (x0 : Int) (x1 : Int) (x2_0 : Int) (x2_1 : Bool) (x2_2 : Bool) (x2_3 : Int) (x2_4_0 : Int) (x2_4_1 : Int) (x2_4_2 : Int) (x2_4_3 : Int) (x2_4_4 : Int) (x2_4_5 : Int) (x2_4_6 : Int) (x2_4_7 : Int), cs = [.int .i64 x0, .int .i64 x1, .int .u32 x2_0, .bool x2_1, .bool x2_2, .int .i64 x2_3, .int .u8 x2_4_0, .int .u8 x2_4_1, .int .u8 x2_4_2, .int .u8 x2_4_3, .int .u8 x2_4_4, .int .u8 x2_4_5, .int .u8 x2_4_6, .int .u8 x2_4_7] ∧ (Lit.int .i64 x0).wf = true ∧ (Lit.int .i64 x1).wf = true ∧ (Lit.int .u32 x2_0).wf = true ∧ (Lit.int .i64 x2_3).wf = true ∧ (Lit.int .u8 x2_4_0).wf = true ∧ (Lit.int .u8 x2_4_1).wf = true ∧ (Lit.int .u8 x2_4_2).wf = true ∧ (Lit.int .u8 x2_4_3).wf = true ∧ (Lit.int .u8 x2_4_4).wf = true ∧ (Lit.int .u8 x2_4_5).wf = true ∧ (Lit.int .u8 x2_4_6).wf = true ∧ (Lit.int .u8 x2_4_7).wf = true
theorem rd49 {H : Type} {enc : TypeId × Value → H} {w : World} {base : Nat} {spare : Nat → Bool} {held : Bool} {fuel : Nat} {cs : List Value} {x : DataW H × List MemPlace}
    (h : DataW.trod enc Tryd.prog w base spare held fuel 49 cs = some x) (hw : Wt Tryd.prog 49 x.1) : R49 w cs := by
  obtain ⟨hl, _⟩ := rd_struct Tryd.underlying49 h hw
  rw [cells49] at hl
  match cs, hl, h with
  | [c0, c1, c2, c3, c4, c5, c6, c7, c8, c9, c10, c11, c12, c13], _, h =>
    obtain ⟨_, gx⟩ := rd_struct Tryd.underlying49 h hw
    obtain ⟨nx0, yx0, tx0, wx0⟩ := gx 0 _ rfl
    replace tx0 : DataW.trod enc Tryd.prog w base spare held nx0 3 [c0] = some yx0 := by simpa [cells3] using tx0
    obtain ⟨x0, ex0, fx0⟩ := rd_int Tryd.underlying3 tx0
    obtain rfl := List.cons.inj ex0 |>.1
    obtain ⟨nx1, yx1, tx1, wx1⟩ := gx 1 _ rfl
    replace tx1 : DataW.trod enc Tryd.prog w base spare held nx1 3 [c1] = some yx1 := by simpa [cells3] using tx1
    obtain ⟨x1, ex1, fx1⟩ := rd_int Tryd.underlying3 tx1
    obtain rfl := List.cons.inj ex1 |>.1
    obtain ⟨nx2, yx2, tx2, wx2⟩ := gx 2 _ rfl
    replace tx2 : DataW.trod enc Tryd.prog w base spare held nx2 26 [c2, c3, c4, c5, c6, c7, c8, c9, c10, c11, c12, c13] = some yx2 := by simpa [cells26] using tx2
    obtain ⟨_, gx2⟩ := rd_struct Tryd.underlying26 tx2 wx2
    obtain ⟨nx2_0, yx2_0, tx2_0, wx2_0⟩ := gx2 0 _ rfl
    replace tx2_0 : DataW.trod enc Tryd.prog w base spare held nx2_0 23 [c2] = some yx2_0 := by simpa [cells23] using tx2_0
    obtain ⟨x2_0, ex2_0, fx2_0⟩ := rd_int Tryd.underlying23 tx2_0
    obtain rfl := List.cons.inj ex2_0 |>.1
    obtain ⟨nx2_1, yx2_1, tx2_1, wx2_1⟩ := gx2 1 _ rfl
    replace tx2_1 : DataW.trod enc Tryd.prog w base spare held nx2_1 4 [c3] = some yx2_1 := by simpa [cells4] using tx2_1
    obtain ⟨x2_1, ex2_1⟩ := rd_bool Tryd.underlying4 tx2_1
    obtain rfl := List.cons.inj ex2_1 |>.1
    obtain ⟨nx2_2, yx2_2, tx2_2, wx2_2⟩ := gx2 2 _ rfl
    replace tx2_2 : DataW.trod enc Tryd.prog w base spare held nx2_2 4 [c4] = some yx2_2 := by simpa [cells4] using tx2_2
    obtain ⟨x2_2, ex2_2⟩ := rd_bool Tryd.underlying4 tx2_2
    obtain rfl := List.cons.inj ex2_2 |>.1
    obtain ⟨nx2_3, yx2_3, tx2_3, wx2_3⟩ := gx2 3 _ rfl
    replace tx2_3 : DataW.trod enc Tryd.prog w base spare held nx2_3 3 [c5] = some yx2_3 := by simpa [cells3] using tx2_3
    obtain ⟨x2_3, ex2_3, fx2_3⟩ := rd_int Tryd.underlying3 tx2_3
    obtain rfl := List.cons.inj ex2_3 |>.1
    obtain ⟨nx2_4, yx2_4, tx2_4, wx2_4⟩ := gx2 4 _ rfl
    replace tx2_4 : DataW.trod enc Tryd.prog w base spare held nx2_4 24 [c6, c7, c8, c9, c10, c11, c12, c13] = some yx2_4 := by simpa [cells24] using tx2_4
    obtain ⟨_, gx2_4⟩ := rd_array Tryd.underlying24 tx2_4 wx2_4
    obtain ⟨nx2_4_0, yx2_4_0, tx2_4_0, wx2_4_0⟩ := gx2_4 0 (by omega)
    replace tx2_4_0 : DataW.trod enc Tryd.prog w base spare held nx2_4_0 5 [c6] = some yx2_4_0 := by simpa [cells5] using tx2_4_0
    obtain ⟨x2_4_0, ex2_4_0, fx2_4_0⟩ := rd_int Tryd.underlying5 tx2_4_0
    obtain rfl := List.cons.inj ex2_4_0 |>.1
    obtain ⟨nx2_4_1, yx2_4_1, tx2_4_1, wx2_4_1⟩ := gx2_4 1 (by omega)
    replace tx2_4_1 : DataW.trod enc Tryd.prog w base spare held nx2_4_1 5 [c7] = some yx2_4_1 := by simpa [cells5] using tx2_4_1
    obtain ⟨x2_4_1, ex2_4_1, fx2_4_1⟩ := rd_int Tryd.underlying5 tx2_4_1
    obtain rfl := List.cons.inj ex2_4_1 |>.1
    obtain ⟨nx2_4_2, yx2_4_2, tx2_4_2, wx2_4_2⟩ := gx2_4 2 (by omega)
    replace tx2_4_2 : DataW.trod enc Tryd.prog w base spare held nx2_4_2 5 [c8] = some yx2_4_2 := by simpa [cells5] using tx2_4_2
    obtain ⟨x2_4_2, ex2_4_2, fx2_4_2⟩ := rd_int Tryd.underlying5 tx2_4_2
    obtain rfl := List.cons.inj ex2_4_2 |>.1
    obtain ⟨nx2_4_3, yx2_4_3, tx2_4_3, wx2_4_3⟩ := gx2_4 3 (by omega)
    replace tx2_4_3 : DataW.trod enc Tryd.prog w base spare held nx2_4_3 5 [c9] = some yx2_4_3 := by simpa [cells5] using tx2_4_3
    obtain ⟨x2_4_3, ex2_4_3, fx2_4_3⟩ := rd_int Tryd.underlying5 tx2_4_3
    obtain rfl := List.cons.inj ex2_4_3 |>.1
    obtain ⟨nx2_4_4, yx2_4_4, tx2_4_4, wx2_4_4⟩ := gx2_4 4 (by omega)
    replace tx2_4_4 : DataW.trod enc Tryd.prog w base spare held nx2_4_4 5 [c10] = some yx2_4_4 := by simpa [cells5] using tx2_4_4
    obtain ⟨x2_4_4, ex2_4_4, fx2_4_4⟩ := rd_int Tryd.underlying5 tx2_4_4
    obtain rfl := List.cons.inj ex2_4_4 |>.1
    obtain ⟨nx2_4_5, yx2_4_5, tx2_4_5, wx2_4_5⟩ := gx2_4 5 (by omega)
    replace tx2_4_5 : DataW.trod enc Tryd.prog w base spare held nx2_4_5 5 [c11] = some yx2_4_5 := by simpa [cells5] using tx2_4_5
    obtain ⟨x2_4_5, ex2_4_5, fx2_4_5⟩ := rd_int Tryd.underlying5 tx2_4_5
    obtain rfl := List.cons.inj ex2_4_5 |>.1
    obtain ⟨nx2_4_6, yx2_4_6, tx2_4_6, wx2_4_6⟩ := gx2_4 6 (by omega)
    replace tx2_4_6 : DataW.trod enc Tryd.prog w base spare held nx2_4_6 5 [c12] = some yx2_4_6 := by simpa [cells5] using tx2_4_6
    obtain ⟨x2_4_6, ex2_4_6, fx2_4_6⟩ := rd_int Tryd.underlying5 tx2_4_6
    obtain rfl := List.cons.inj ex2_4_6 |>.1
    obtain ⟨nx2_4_7, yx2_4_7, tx2_4_7, wx2_4_7⟩ := gx2_4 7 (by omega)
    replace tx2_4_7 : DataW.trod enc Tryd.prog w base spare held nx2_4_7 5 [c13] = some yx2_4_7 := by simpa [cells5] using tx2_4_7
    obtain ⟨x2_4_7, ex2_4_7, fx2_4_7⟩ := rd_int Tryd.underlying5 tx2_4_7
    obtain rfl := List.cons.inj ex2_4_7 |>.1
    exact ⟨x0, x1, x2_0, x2_1, x2_2, x2_3, x2_4_0, x2_4_1, x2_4_2, x2_4_3, x2_4_4, x2_4_5, x2_4_6, x2_4_7, rfl, fx0, fx1, fx2_0, fx2_3, fx2_4_0, fx2_4_1, fx2_4_2, fx2_4_3, fx2_4_4, fx2_4_5, fx2_4_6, fx2_4_7⟩
def R47 (w : World) (cs : List Value) : Prop := ∃ (xa : Option Addr) (xl : Nat) (xc : Nat), cs = [.slice xa xl xc] ∧ SliceAt 14 B49 R49 w xa xl xc
theorem rd47 {H : Type} {enc : TypeId × Value → H} {w : World} {base : Nat} {spare : Nat → Bool} {held : Bool} {fuel : Nat} {cs : List Value} {x : DataW H × List MemPlace}
    (h : DataW.trod enc Tryd.prog w base spare held fuel 47 cs = some x) (hw : Wt Tryd.prog 47 x.1) : R47 w cs := by
  exact rd_slice (s := 14) (B := B49) (R := R49) Tryd.underlying47 cells49 bytes49 (fun _ _ _ h_ w_ => rd49 h_ w_) h hw
end Go.Proofs.YthgpikgbhkcnbaaDoor
