/- How the parameters of this seat's laws read: each type's cells, written out. Printed by wip/tools/mkrow.py. -/
import Derived.Test.YtneicohblmjakaaRd
import Derived.Test.YtneicohblmjakaaRows
set_option linter.unusedVariables false
set_option linter.unusedSimpArgs false
namespace Go.Proofs.Ytneicohblmjakaa
open Go.ChangeShapes Go.WideShapes Go.Deep

theorem cells23 : Try.prog.cellsOf 23 = 1 := by kernel_rfl
theorem cells24 : Try.prog.cellsOf 24 = 4 := by kernel_rfl
theorem cells22 : Try.prog.cellsOf 22 = 1 := by kernel_rfl
theorem cells3 : Try.prog.cellsOf 3 = 1 := by kernel_rfl
theorem cells5 : Try.prog.cellsOf 5 = 1 := by kernel_rfl
theorem cells29 : Try.prog.cellsOf 29 = 8 := by kernel_rfl
theorem cells4 : Try.prog.cellsOf 4 = 1 := by kernel_rfl
theorem cells43 : Try.prog.cellsOf 43 = 10 := by kernel_rfl
theorem cells41 : Try.prog.cellsOf 41 = 1 := by kernel_rfl
def B24 : Nat := 16
theorem bytes24 : Try.prog.bytesOf 24 = B24 := by kernel_rfl
def B43 : Nat := 24
theorem bytes43 : Try.prog.bytesOf 43 = B43 := by kernel_rfl
def R23 (w : World) (cs : List Value) : Prop := ∃ (x : Int), cs = [.int .u32 x] ∧ (Lit.int .u32 x).wf = true
theorem rd23 {H : Type} {enc : TypeId × Value → H} {w : World} {base : Nat} {spare : Nat → Bool} {held : Bool} {fuel : Nat} {cs : List Value} {x : DataW H × List MemPlace}
    (h : DataW.trod enc Try.prog w base spare held fuel 23 cs = some x) (hw : Wt Try.prog 23 x.1) : R23 w cs := by
  exact rd_int Try.underlying23 h
def R24 (w : World) (cs : List Value) : Prop := ∃ (x0 : Int) (x1 : Int) (x2 : Int) (x3 : Int), cs = [.int .u32 x0, .int .u32 x1, .int .u32 x2, .int .u32 x3] ∧ (Lit.int .u32 x0).wf = true ∧ (Lit.int .u32 x1).wf = true ∧ (Lit.int .u32 x2).wf = true ∧ (Lit.int .u32 x3).wf = true
theorem rd24 {H : Type} {enc : TypeId × Value → H} {w : World} {base : Nat} {spare : Nat → Bool} {held : Bool} {fuel : Nat} {cs : List Value} {x : DataW H × List MemPlace}
    (h : DataW.trod enc Try.prog w base spare held fuel 24 cs = some x) (hw : Wt Try.prog 24 x.1) : R24 w cs := by
  obtain ⟨hl, _⟩ := rd_array Try.underlying24 h hw
  rw [cells24] at hl
  match cs, hl, h with
  | [c0, c1, c2, c3], _, h =>
    obtain ⟨_, gx⟩ := rd_array Try.underlying24 h hw
    obtain ⟨nx0, yx0, tx0, wx0⟩ := gx 0 (by omega)
    replace tx0 : DataW.trod enc Try.prog w base spare held nx0 23 [c0] = some yx0 := by simpa [cells23] using tx0
    obtain ⟨x0, ex0, fx0⟩ := rd_int Try.underlying23 tx0
    obtain rfl := List.cons.inj ex0 |>.1
    obtain ⟨nx1, yx1, tx1, wx1⟩ := gx 1 (by omega)
    replace tx1 : DataW.trod enc Try.prog w base spare held nx1 23 [c1] = some yx1 := by simpa [cells23] using tx1
    obtain ⟨x1, ex1, fx1⟩ := rd_int Try.underlying23 tx1
    obtain rfl := List.cons.inj ex1 |>.1
    obtain ⟨nx2, yx2, tx2, wx2⟩ := gx 2 (by omega)
    replace tx2 : DataW.trod enc Try.prog w base spare held nx2 23 [c2] = some yx2 := by simpa [cells23] using tx2
    obtain ⟨x2, ex2, fx2⟩ := rd_int Try.underlying23 tx2
    obtain rfl := List.cons.inj ex2 |>.1
    obtain ⟨nx3, yx3, tx3, wx3⟩ := gx 3 (by omega)
    replace tx3 : DataW.trod enc Try.prog w base spare held nx3 23 [c3] = some yx3 := by simpa [cells23] using tx3
    obtain ⟨x3, ex3, fx3⟩ := rd_int Try.underlying23 tx3
    obtain rfl := List.cons.inj ex3 |>.1
    exact ⟨x0, x1, x2, x3, rfl, fx0, fx1, fx2, fx3⟩
def R22 (w : World) (cs : List Value) : Prop := ∃ (xa : Option Addr) (xl : Nat) (xc : Nat), cs = [.slice xa xl xc] ∧ SliceAt 4 B24 R24 w xa xl xc
theorem rd22 {H : Type} {enc : TypeId × Value → H} {w : World} {base : Nat} {spare : Nat → Bool} {held : Bool} {fuel : Nat} {cs : List Value} {x : DataW H × List MemPlace}
    (h : DataW.trod enc Try.prog w base spare held fuel 22 cs = some x) (hw : Wt Try.prog 22 x.1) : R22 w cs := by
  exact rd_slice (s := 4) (B := B24) (R := R24) Try.underlying22 cells24 bytes24 (fun _ _ _ h_ w_ => rd24 h_ w_) h hw
def R3 (w : World) (cs : List Value) : Prop := ∃ (x : Int), cs = [.int .i64 x] ∧ (Lit.int .i64 x).wf = true
theorem rd3 {H : Type} {enc : TypeId × Value → H} {w : World} {base : Nat} {spare : Nat → Bool} {held : Bool} {fuel : Nat} {cs : List Value} {x : DataW H × List MemPlace}
    (h : DataW.trod enc Try.prog w base spare held fuel 3 cs = some x) (hw : Wt Try.prog 3 x.1) : R3 w cs := by
  exact rd_int Try.underlying3 h
def R5 (w : World) (cs : List Value) : Prop := ∃ (x : Int), cs = [.int .u8 x] ∧ (Lit.int .u8 x).wf = true
theorem rd5 {H : Type} {enc : TypeId × Value → H} {w : World} {base : Nat} {spare : Nat → Bool} {held : Bool} {fuel : Nat} {cs : List Value} {x : DataW H × List MemPlace}
    (h : DataW.trod enc Try.prog w base spare held fuel 5 cs = some x) (hw : Wt Try.prog 5 x.1) : R5 w cs := by
  exact rd_int Try.underlying5 h
def R29 (w : World) (cs : List Value) : Prop := ∃ (x0 : Int) (x1 : Int) (x2 : Int) (x3 : Int) (x4 : Int) (x5 : Int) (x6 : Int) (x7 : Int), cs = [.int .u8 x0, .int .u8 x1, .int .u8 x2, .int .u8 x3, .int .u8 x4, .int .u8 x5, .int .u8 x6, .int .u8 x7] ∧ (Lit.int .u8 x0).wf = true ∧ (Lit.int .u8 x1).wf = true ∧ (Lit.int .u8 x2).wf = true ∧ (Lit.int .u8 x3).wf = true ∧ (Lit.int .u8 x4).wf = true ∧ (Lit.int .u8 x5).wf = true ∧ (Lit.int .u8 x6).wf = true ∧ (Lit.int .u8 x7).wf = true
theorem rd29 {H : Type} {enc : TypeId × Value → H} {w : World} {base : Nat} {spare : Nat → Bool} {held : Bool} {fuel : Nat} {cs : List Value} {x : DataW H × List MemPlace}
    (h : DataW.trod enc Try.prog w base spare held fuel 29 cs = some x) (hw : Wt Try.prog 29 x.1) : R29 w cs := by
  obtain ⟨hl, _⟩ := rd_array Try.underlying29 h hw
  rw [cells29] at hl
  match cs, hl, h with
  | [c0, c1, c2, c3, c4, c5, c6, c7], _, h =>
    obtain ⟨_, gx⟩ := rd_array Try.underlying29 h hw
    obtain ⟨nx0, yx0, tx0, wx0⟩ := gx 0 (by omega)
    replace tx0 : DataW.trod enc Try.prog w base spare held nx0 5 [c0] = some yx0 := by simpa [cells5] using tx0
    obtain ⟨x0, ex0, fx0⟩ := rd_int Try.underlying5 tx0
    obtain rfl := List.cons.inj ex0 |>.1
    obtain ⟨nx1, yx1, tx1, wx1⟩ := gx 1 (by omega)
    replace tx1 : DataW.trod enc Try.prog w base spare held nx1 5 [c1] = some yx1 := by simpa [cells5] using tx1
    obtain ⟨x1, ex1, fx1⟩ := rd_int Try.underlying5 tx1
    obtain rfl := List.cons.inj ex1 |>.1
    obtain ⟨nx2, yx2, tx2, wx2⟩ := gx 2 (by omega)
    replace tx2 : DataW.trod enc Try.prog w base spare held nx2 5 [c2] = some yx2 := by simpa [cells5] using tx2
    obtain ⟨x2, ex2, fx2⟩ := rd_int Try.underlying5 tx2
    obtain rfl := List.cons.inj ex2 |>.1
    obtain ⟨nx3, yx3, tx3, wx3⟩ := gx 3 (by omega)
    replace tx3 : DataW.trod enc Try.prog w base spare held nx3 5 [c3] = some yx3 := by simpa [cells5] using tx3
    obtain ⟨x3, ex3, fx3⟩ := rd_int Try.underlying5 tx3
    obtain rfl := List.cons.inj ex3 |>.1
    obtain ⟨nx4, yx4, tx4, wx4⟩ := gx 4 (by omega)
    replace tx4 : DataW.trod enc Try.prog w base spare held nx4 5 [c4] = some yx4 := by simpa [cells5] using tx4
    obtain ⟨x4, ex4, fx4⟩ := rd_int Try.underlying5 tx4
    obtain rfl := List.cons.inj ex4 |>.1
    obtain ⟨nx5, yx5, tx5, wx5⟩ := gx 5 (by omega)
    replace tx5 : DataW.trod enc Try.prog w base spare held nx5 5 [c5] = some yx5 := by simpa [cells5] using tx5
    obtain ⟨x5, ex5, fx5⟩ := rd_int Try.underlying5 tx5
    obtain rfl := List.cons.inj ex5 |>.1
    obtain ⟨nx6, yx6, tx6, wx6⟩ := gx 6 (by omega)
    replace tx6 : DataW.trod enc Try.prog w base spare held nx6 5 [c6] = some yx6 := by simpa [cells5] using tx6
    obtain ⟨x6, ex6, fx6⟩ := rd_int Try.underlying5 tx6
    obtain rfl := List.cons.inj ex6 |>.1
    obtain ⟨nx7, yx7, tx7, wx7⟩ := gx 7 (by omega)
    replace tx7 : DataW.trod enc Try.prog w base spare held nx7 5 [c7] = some yx7 := by simpa [cells5] using tx7
    obtain ⟨x7, ex7, fx7⟩ := rd_int Try.underlying5 tx7
    obtain rfl := List.cons.inj ex7 |>.1
    exact ⟨x0, x1, x2, x3, x4, x5, x6, x7, rfl, fx0, fx1, fx2, fx3, fx4, fx5, fx6, fx7⟩
def R4 (w : World) (cs : List Value) : Prop := ∃ (x : Bool), cs = [.bool x]
theorem rd4 {H : Type} {enc : TypeId × Value → H} {w : World} {base : Nat} {spare : Nat → Bool} {held : Bool} {fuel : Nat} {cs : List Value} {x : DataW H × List MemPlace}
    (h : DataW.trod enc Try.prog w base spare held fuel 4 cs = some x) (hw : Wt Try.prog 4 x.1) : R4 w cs := by
  exact rd_bool Try.underlying4 h
def R43 (w : World) (cs : List Value) : Prop := ∃ (x0 : Int) (x1_0 : Int) (x1_1 : Int) (x1_2 : Int) (x1_3 : Int) (x1_4 : Int) (x1_5 : Int) (x1_6 : Int) (x1_7 : Int) (x2 : Bool), cs = [.int .i64 x0, .int .u8 x1_0, .int .u8 x1_1, .int .u8 x1_2, .int .u8 x1_3, .int .u8 x1_4, .int .u8 x1_5, .int .u8 x1_6, .int .u8 x1_7, .bool x2] ∧ (Lit.int .i64 x0).wf = true ∧ (Lit.int .u8 x1_0).wf = true ∧ (Lit.int .u8 x1_1).wf = true ∧ (Lit.int .u8 x1_2).wf = true ∧ (Lit.int .u8 x1_3).wf = true ∧ (Lit.int .u8 x1_4).wf = true ∧ (Lit.int .u8 x1_5).wf = true ∧ (Lit.int .u8 x1_6).wf = true ∧ (Lit.int .u8 x1_7).wf = true
theorem rd43 {H : Type} {enc : TypeId × Value → H} {w : World} {base : Nat} {spare : Nat → Bool} {held : Bool} {fuel : Nat} {cs : List Value} {x : DataW H × List MemPlace}
    (h : DataW.trod enc Try.prog w base spare held fuel 43 cs = some x) (hw : Wt Try.prog 43 x.1) : R43 w cs := by
  obtain ⟨hl, _⟩ := rd_struct Try.underlying43 h hw
  rw [cells43] at hl
  match cs, hl, h with
  | [c0, c1, c2, c3, c4, c5, c6, c7, c8, c9], _, h =>
    obtain ⟨_, gx⟩ := rd_struct Try.underlying43 h hw
    obtain ⟨nx0, yx0, tx0, wx0⟩ := gx 0 _ rfl
    replace tx0 : DataW.trod enc Try.prog w base spare held nx0 3 [c0] = some yx0 := by simpa [cells3] using tx0
    obtain ⟨x0, ex0, fx0⟩ := rd_int Try.underlying3 tx0
    obtain rfl := List.cons.inj ex0 |>.1
    obtain ⟨nx1, yx1, tx1, wx1⟩ := gx 1 _ rfl
    replace tx1 : DataW.trod enc Try.prog w base spare held nx1 29 [c1, c2, c3, c4, c5, c6, c7, c8] = some yx1 := by simpa [cells29] using tx1
    obtain ⟨_, gx1⟩ := rd_array Try.underlying29 tx1 wx1
    obtain ⟨nx1_0, yx1_0, tx1_0, wx1_0⟩ := gx1 0 (by omega)
    replace tx1_0 : DataW.trod enc Try.prog w base spare held nx1_0 5 [c1] = some yx1_0 := by simpa [cells5] using tx1_0
    obtain ⟨x1_0, ex1_0, fx1_0⟩ := rd_int Try.underlying5 tx1_0
    obtain rfl := List.cons.inj ex1_0 |>.1
    obtain ⟨nx1_1, yx1_1, tx1_1, wx1_1⟩ := gx1 1 (by omega)
    replace tx1_1 : DataW.trod enc Try.prog w base spare held nx1_1 5 [c2] = some yx1_1 := by simpa [cells5] using tx1_1
    obtain ⟨x1_1, ex1_1, fx1_1⟩ := rd_int Try.underlying5 tx1_1
    obtain rfl := List.cons.inj ex1_1 |>.1
    obtain ⟨nx1_2, yx1_2, tx1_2, wx1_2⟩ := gx1 2 (by omega)
    replace tx1_2 : DataW.trod enc Try.prog w base spare held nx1_2 5 [c3] = some yx1_2 := by simpa [cells5] using tx1_2
    obtain ⟨x1_2, ex1_2, fx1_2⟩ := rd_int Try.underlying5 tx1_2
    obtain rfl := List.cons.inj ex1_2 |>.1
    obtain ⟨nx1_3, yx1_3, tx1_3, wx1_3⟩ := gx1 3 (by omega)
    replace tx1_3 : DataW.trod enc Try.prog w base spare held nx1_3 5 [c4] = some yx1_3 := by simpa [cells5] using tx1_3
    obtain ⟨x1_3, ex1_3, fx1_3⟩ := rd_int Try.underlying5 tx1_3
    obtain rfl := List.cons.inj ex1_3 |>.1
    obtain ⟨nx1_4, yx1_4, tx1_4, wx1_4⟩ := gx1 4 (by omega)
    replace tx1_4 : DataW.trod enc Try.prog w base spare held nx1_4 5 [c5] = some yx1_4 := by simpa [cells5] using tx1_4
    obtain ⟨x1_4, ex1_4, fx1_4⟩ := rd_int Try.underlying5 tx1_4
    obtain rfl := List.cons.inj ex1_4 |>.1
    obtain ⟨nx1_5, yx1_5, tx1_5, wx1_5⟩ := gx1 5 (by omega)
    replace tx1_5 : DataW.trod enc Try.prog w base spare held nx1_5 5 [c6] = some yx1_5 := by simpa [cells5] using tx1_5
    obtain ⟨x1_5, ex1_5, fx1_5⟩ := rd_int Try.underlying5 tx1_5
    obtain rfl := List.cons.inj ex1_5 |>.1
    obtain ⟨nx1_6, yx1_6, tx1_6, wx1_6⟩ := gx1 6 (by omega)
    replace tx1_6 : DataW.trod enc Try.prog w base spare held nx1_6 5 [c7] = some yx1_6 := by simpa [cells5] using tx1_6
    obtain ⟨x1_6, ex1_6, fx1_6⟩ := rd_int Try.underlying5 tx1_6
    obtain rfl := List.cons.inj ex1_6 |>.1
    obtain ⟨nx1_7, yx1_7, tx1_7, wx1_7⟩ := gx1 7 (by omega)
    replace tx1_7 : DataW.trod enc Try.prog w base spare held nx1_7 5 [c8] = some yx1_7 := by simpa [cells5] using tx1_7
    obtain ⟨x1_7, ex1_7, fx1_7⟩ := rd_int Try.underlying5 tx1_7
    obtain rfl := List.cons.inj ex1_7 |>.1
    obtain ⟨nx2, yx2, tx2, wx2⟩ := gx 2 _ rfl
    replace tx2 : DataW.trod enc Try.prog w base spare held nx2 4 [c9] = some yx2 := by simpa [cells4] using tx2
    obtain ⟨x2, ex2⟩ := rd_bool Try.underlying4 tx2
    obtain rfl := List.cons.inj ex2 |>.1
    exact ⟨x0, x1_0, x1_1, x1_2, x1_3, x1_4, x1_5, x1_6, x1_7, x2, rfl, fx0, fx1_0, fx1_1, fx1_2, fx1_3, fx1_4, fx1_5, fx1_6, fx1_7⟩
def R41 (w : World) (cs : List Value) : Prop := ∃ (xa : Option Addr) (xl : Nat) (xc : Nat), cs = [.slice xa xl xc] ∧ SliceAt 10 B43 R43 w xa xl xc
theorem rd41 {H : Type} {enc : TypeId × Value → H} {w : World} {base : Nat} {spare : Nat → Bool} {held : Bool} {fuel : Nat} {cs : List Value} {x : DataW H × List MemPlace}
    (h : DataW.trod enc Try.prog w base spare held fuel 41 cs = some x) (hw : Wt Try.prog 41 x.1) : R41 w cs := by
  exact rd_slice (s := 10) (B := B43) (R := R43) Try.underlying41 cells43 bytes43 (fun _ _ _ h_ w_ => rd43 h_ w_) h hw
end Go.Proofs.Ytneicohblmjakaa
