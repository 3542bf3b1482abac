/- How the parameters of this seat's laws read: each type's cells, written out. Printed by wip/tools/mkrow.py. -/
import Derived.Test.YtledahfkpnbfcaaDoorRd
import Derived.Test.YtledahfkpnbfcaaDoorRows
set_option linter.unusedVariables false
set_option linter.unusedSimpArgs false
set_option maxRecDepth 100000
namespace Go.Proofs.YtledahfkpnbfcaaDoor
open Go.ChangeShapes Go.WideShapes Go.Deep

theorem cells22 : Tryd.prog.cellsOf 22 = 1 := by kernel_rfl
theorem cells4 : Tryd.prog.cellsOf 4 = 1 := by kernel_rfl
theorem cells3 : Tryd.prog.cellsOf 3 = 1 := by kernel_rfl
theorem cells5 : Tryd.prog.cellsOf 5 = 1 := by kernel_rfl
theorem cells23 : Tryd.prog.cellsOf 23 = 8 := by kernel_rfl
theorem cells25 : Tryd.prog.cellsOf 25 = 12 := by kernel_rfl
theorem cells26 : Tryd.prog.cellsOf 26 = 1 := by kernel_rfl
theorem cells9 : Tryd.prog.cellsOf 9 = 1 := by kernel_rfl
theorem cells44 : Tryd.prog.cellsOf 44 = 1 := by kernel_rfl
theorem cells48 : Tryd.prog.cellsOf 48 = 1 := by kernel_rfl
def B5 : Nat := 1
theorem bytes5 : Tryd.prog.bytesOf 5 = B5 := by kernel_rfl
def B25 : Nat := 24
theorem bytes25 : Tryd.prog.bytesOf 25 = B25 := by kernel_rfl
def R22 (w : World) (cs : List Value) : Prop := ∃ (x : Int), cs = [.int .u32 x] ∧ (Lit.int .u32 x).wf = true
theorem rd22 {H : Type} {enc : TypeId × Value → H} {w : World} {base : Nat} {spare : Nat → Bool} {held : Bool} {fuel : Nat} {cs : List Value} {x : DataW H × List MemPlace}
    (h : DataW.trod enc Tryd.prog w base spare held fuel 22 cs = some x) (hw : Wt Tryd.prog 22 x.1) : R22 w cs := by
  exact rd_int Tryd.underlying22 h
def R4 (w : World) (cs : List Value) : Prop := ∃ (x : Bool), cs = [.bool x]
theorem rd4 {H : Type} {enc : TypeId × Value → H} {w : World} {base : Nat} {spare : Nat → Bool} {held : Bool} {fuel : Nat} {cs : List Value} {x : DataW H × List MemPlace}
    (h : DataW.trod enc Tryd.prog w base spare held fuel 4 cs = some x) (hw : Wt Tryd.prog 4 x.1) : R4 w cs := by
  exact rd_bool Tryd.underlying4 h
def R3 (w : World) (cs : List Value) : Prop := ∃ (x : Int), cs = [.int .i64 x] ∧ (Lit.int .i64 x).wf = true
theorem rd3 {H : Type} {enc : TypeId × Value → H} {w : World} {base : Nat} {spare : Nat → Bool} {held : Bool} {fuel : Nat} {cs : List Value} {x : DataW H × List MemPlace}
    (h : DataW.trod enc Tryd.prog w base spare held fuel 3 cs = some x) (hw : Wt Tryd.prog 3 x.1) : R3 w cs := by
  exact rd_int Tryd.underlying3 h
def R5 (w : World) (cs : List Value) : Prop := ∃ (x : Int), cs = [.int .u8 x] ∧ (Lit.int .u8 x).wf = true
theorem rd5 {H : Type} {enc : TypeId × Value → H} {w : World} {base : Nat} {spare : Nat → Bool} {held : Bool} {fuel : Nat} {cs : List Value} {x : DataW H × List MemPlace}
    (h : DataW.trod enc Tryd.prog w base spare held fuel 5 cs = some x) (hw : Wt Tryd.prog 5 x.1) : R5 w cs := by
  exact rd_int Tryd.underlying5 h
def R23 (w : World) (cs : List Value) : Prop := ∃ (x0 : Int) (x1 : Int) (x2 : Int) (x3 : Int) (x4 : Int) (x5 : Int) (x6 : Int) (x7 : Int), cs = [.int .u8 x0, .int .u8 x1, .int .u8 x2, .int .u8 x3, .int .u8 x4, .int .u8 x5, .int .u8 x6, .int .u8 x7] ∧ (Lit.int .u8 x0).wf = true ∧ (Lit.int .u8 x1).wf = true ∧ (Lit.int .u8 x2).wf = true ∧ (Lit.int .u8 x3).wf = true ∧ (Lit.int .u8 x4).wf = true ∧ (Lit.int .u8 x5).wf = true ∧ (Lit.int .u8 x6).wf = true ∧ (Lit.int .u8 x7).wf = true
theorem rd23 {H : Type} {enc : TypeId × Value → H} {w : World} {base : Nat} {spare : Nat → Bool} {held : Bool} {fuel : Nat} {cs : List Value} {x : DataW H × List MemPlace}
    (h : DataW.trod enc Tryd.prog w base spare held fuel 23 cs = some x) (hw : Wt Tryd.prog 23 x.1) : R23 w cs := by
  obtain ⟨hl, _⟩ := rd_array Tryd.underlying23 h hw
  rw [cells23] at hl
  match cs, hl, h with
  | [c0, c1, c2, c3, c4, c5, c6, c7], _, h =>
    obtain ⟨_, gx⟩ := rd_array Tryd.underlying23 h hw
    obtain ⟨nx0, yx0, tx0, wx0⟩ := gx 0 (by omega)
    replace tx0 : DataW.trod enc Tryd.prog w base spare held nx0 5 [c0] = some yx0 := by simpa [cells5] using tx0
    obtain ⟨x0, ex0, fx0⟩ := rd_int Tryd.underlying5 tx0
    obtain rfl := List.cons.inj ex0 |>.1
    obtain ⟨nx1, yx1, tx1, wx1⟩ := gx 1 (by omega)
    replace tx1 : DataW.trod enc Tryd.prog w base spare held nx1 5 [c1] = some yx1 := by simpa [cells5] using tx1
    obtain ⟨x1, ex1, fx1⟩ := rd_int Tryd.underlying5 tx1
    obtain rfl := List.cons.inj ex1 |>.1
    obtain ⟨nx2, yx2, tx2, wx2⟩ := gx 2 (by omega)
    replace tx2 : DataW.trod enc Tryd.prog w base spare held nx2 5 [c2] = some yx2 := by simpa [cells5] using tx2
    obtain ⟨x2, ex2, fx2⟩ := rd_int Tryd.underlying5 tx2
    obtain rfl := List.cons.inj ex2 |>.1
    obtain ⟨nx3, yx3, tx3, wx3⟩ := gx 3 (by omega)
    replace tx3 : DataW.trod enc Tryd.prog w base spare held nx3 5 [c3] = some yx3 := by simpa [cells5] using tx3
    obtain ⟨x3, ex3, fx3⟩ := rd_int Tryd.underlying5 tx3
    obtain rfl := List.cons.inj ex3 |>.1
    obtain ⟨nx4, yx4, tx4, wx4⟩ := gx 4 (by omega)
    replace tx4 : DataW.trod enc Tryd.prog w base spare held nx4 5 [c4] = some yx4 := by simpa [cells5] using tx4
    obtain ⟨x4, ex4, fx4⟩ := rd_int Tryd.underlying5 tx4
    obtain rfl := List.cons.inj ex4 |>.1
    obtain ⟨nx5, yx5, tx5, wx5⟩ := gx 5 (by omega)
    replace tx5 : DataW.trod enc Tryd.prog w base spare held nx5 5 [c5] = some yx5 := by simpa [cells5] using tx5
    obtain ⟨x5, ex5, fx5⟩ := rd_int Tryd.underlying5 tx5
    obtain rfl := List.cons.inj ex5 |>.1
    obtain ⟨nx6, yx6, tx6, wx6⟩ := gx 6 (by omega)
    replace tx6 : DataW.trod enc Tryd.prog w base spare held nx6 5 [c6] = some yx6 := by simpa [cells5] using tx6
    obtain ⟨x6, ex6, fx6⟩ := rd_int Tryd.underlying5 tx6
    obtain rfl := List.cons.inj ex6 |>.1
    obtain ⟨nx7, yx7, tx7, wx7⟩ := gx 7 (by omega)
    replace tx7 : DataW.trod enc Tryd.prog w base spare held nx7 5 [c7] = some yx7 := by simpa [cells5] using tx7
    obtain ⟨x7, ex7, fx7⟩ := rd_int Tryd.underlying5 tx7
    obtain rfl := List.cons.inj ex7 |>.1
    exact ⟨x0, x1, x2, x3, x4, x5, x6, x7, rfl, fx0, fx1, fx2, fx3, fx4, fx5, fx6, fx7⟩
def R25 (w : World) (cs : List Value) : Prop := ∃ (x0 : Int) (x1 : Bool) (x2 : Bool) (x3 : Int) (x4_0 : Int) (x4_1 : Int) (x4_2 : Int) (x4_3 : Int) (x4_4 : Int) (x4_5 : Int) (x4_6 : Int) (x4_7 : Int), cs = [.int .u32 x0, .bool x1, .bool x2, .int .i64 x3, .int .u8 x4_0, .int .u8 x4_1, .int .u8 x4_2, .int .u8 x4_3, .int .u8 x4_4, .int .u8 x4_5, .int .u8 x4_6, .int .u8 x4_7] ∧ (Lit.int .u32 x0).wf = true ∧ (Lit.int .i64 x3).wf = true ∧ (Lit.int .u8 x4_0).wf = true ∧ (Lit.int .u8 x4_1).wf = true ∧ (Lit.int .u8 x4_2).wf = true ∧ (Lit.int .u8 x4_3).wf = true ∧ (Lit.int .u8 x4_4).wf = true ∧ (Lit.int .u8 x4_5).wf = true ∧ (Lit.int .u8 x4_6).wf = true ∧ (Lit.int .u8 x4_7).wf = true
theorem rd25 {H : Type} {enc : TypeId × Value → H} {w : World} {base : Nat} {spare : Nat → Bool} {held : Bool} {fuel : Nat} {cs : List Value} {x : DataW H × List MemPlace}
    (h : DataW.trod enc Tryd.prog w base spare held fuel 25 cs = some x) (hw : Wt Tryd.prog 25 x.1) : R25 w cs := by
  obtain ⟨hl, _⟩ := rd_struct Tryd.underlying25 h hw
  rw [cells25] at hl
  match cs, hl, h with
  | [c0, c1, c2, c3, c4, c5, c6, c7, c8, c9, c10, c11], _, h =>
    obtain ⟨_, gx⟩ := rd_struct Tryd.underlying25 h hw
    obtain ⟨nx0, yx0, tx0, wx0⟩ := gx 0 _ rfl
    replace tx0 : DataW.trod enc Tryd.prog w base spare held nx0 22 [c0] = some yx0 := by simpa [cells22] using tx0
    obtain ⟨x0, ex0, fx0⟩ := rd_int Tryd.underlying22 tx0
    obtain rfl := List.cons.inj ex0 |>.1
    obtain ⟨nx1, yx1, tx1, wx1⟩ := gx 1 _ rfl
    replace tx1 : DataW.trod enc Tryd.prog w base spare held nx1 4 [c1] = some yx1 := by simpa [cells4] using tx1
    obtain ⟨x1, ex1⟩ := rd_bool Tryd.underlying4 tx1
    obtain rfl := List.cons.inj ex1 |>.1
    obtain ⟨nx2, yx2, tx2, wx2⟩ := gx 2 _ rfl
    replace tx2 : DataW.trod enc Tryd.prog w base spare held nx2 4 [c2] = some yx2 := by simpa [cells4] using tx2
    obtain ⟨x2, ex2⟩ := rd_bool Tryd.underlying4 tx2
    obtain rfl := List.cons.inj ex2 |>.1
    obtain ⟨nx3, yx3, tx3, wx3⟩ := gx 3 _ rfl
    replace tx3 : DataW.trod enc Tryd.prog w base spare held nx3 3 [c3] = some yx3 := by simpa [cells3] using tx3
    obtain ⟨x3, ex3, fx3⟩ := rd_int Tryd.underlying3 tx3
    obtain rfl := List.cons.inj ex3 |>.1
    obtain ⟨nx4, yx4, tx4, wx4⟩ := gx 4 _ rfl
    replace tx4 : DataW.trod enc Tryd.prog w base spare held nx4 23 [c4, c5, c6, c7, c8, c9, c10, c11] = some yx4 := by simpa [cells23] using tx4
    obtain ⟨_, gx4⟩ := rd_array Tryd.underlying23 tx4 wx4
    obtain ⟨nx4_0, yx4_0, tx4_0, wx4_0⟩ := gx4 0 (by omega)
    replace tx4_0 : DataW.trod enc Tryd.prog w base spare held nx4_0 5 [c4] = some yx4_0 := by simpa [cells5] using tx4_0
    obtain ⟨x4_0, ex4_0, fx4_0⟩ := rd_int Tryd.underlying5 tx4_0
    obtain rfl := List.cons.inj ex4_0 |>.1
    obtain ⟨nx4_1, yx4_1, tx4_1, wx4_1⟩ := gx4 1 (by omega)
    replace tx4_1 : DataW.trod enc Tryd.prog w base spare held nx4_1 5 [c5] = some yx4_1 := by simpa [cells5] using tx4_1
    obtain ⟨x4_1, ex4_1, fx4_1⟩ := rd_int Tryd.underlying5 tx4_1
    obtain rfl := List.cons.inj ex4_1 |>.1
    obtain ⟨nx4_2, yx4_2, tx4_2, wx4_2⟩ := gx4 2 (by omega)
    replace tx4_2 : DataW.trod enc Tryd.prog w base spare held nx4_2 5 [c6] = some yx4_2 := by simpa [cells5] using tx4_2
    obtain ⟨x4_2, ex4_2, fx4_2⟩ := rd_int Tryd.underlying5 tx4_2
    obtain rfl := List.cons.inj ex4_2 |>.1
    obtain ⟨nx4_3, yx4_3, tx4_3, wx4_3⟩ := gx4 3 (by omega)
    replace tx4_3 : DataW.trod enc Tryd.prog w base spare held nx4_3 5 [c7] = some yx4_3 := by simpa [cells5] using tx4_3
    obtain ⟨x4_3, ex4_3, fx4_3⟩ := rd_int Tryd.underlying5 tx4_3
    obtain rfl := List.cons.inj ex4_3 |>.1
    obtain ⟨nx4_4, yx4_4, tx4_4, wx4_4⟩ := gx4 4 (by omega)
    replace tx4_4 : DataW.trod enc Tryd.prog w base spare held nx4_4 5 [c8] = some yx4_4 := by simpa [cells5] using tx4_4
    obtain ⟨x4_4, ex4_4, fx4_4⟩ := rd_int Tryd.underlying5 tx4_4
    obtain rfl := List.cons.inj ex4_4 |>.1
    obtain ⟨nx4_5, yx4_5, tx4_5, wx4_5⟩ := gx4 5 (by omega)
    replace tx4_5 : DataW.trod enc Tryd.prog w base spare held nx4_5 5 [c9] = some yx4_5 := by simpa [cells5] using tx4_5
    obtain ⟨x4_5, ex4_5, fx4_5⟩ := rd_int Tryd.underlying5 tx4_5
    obtain rfl := List.cons.inj ex4_5 |>.1
    obtain ⟨nx4_6, yx4_6, tx4_6, wx4_6⟩ := gx4 6 (by omega)
    replace tx4_6 : DataW.trod enc Tryd.prog w base spare held nx4_6 5 [c10] = some yx4_6 := by simpa [cells5] using tx4_6
    obtain ⟨x4_6, ex4_6, fx4_6⟩ := rd_int Tryd.underlying5 tx4_6
    obtain rfl := List.cons.inj ex4_6 |>.1
    obtain ⟨nx4_7, yx4_7, tx4_7, wx4_7⟩ := gx4 7 (by omega)
    replace tx4_7 : DataW.trod enc Tryd.prog w base spare held nx4_7 5 [c11] = some yx4_7 := by simpa [cells5] using tx4_7
    obtain ⟨x4_7, ex4_7, fx4_7⟩ := rd_int Tryd.underlying5 tx4_7
    obtain rfl := List.cons.inj ex4_7 |>.1
    exact ⟨x0, x1, x2, x3, x4_0, x4_1, x4_2, x4_3, x4_4, x4_5, x4_6, x4_7, rfl, fx0, fx3, fx4_0, fx4_1, fx4_2, fx4_3, fx4_4, fx4_5, fx4_6, fx4_7⟩
def R26 (w : World) (cs : List Value) : Prop := ∃ (x : Int), cs = [.int .u16 x] ∧ (Lit.int .u16 x).wf = true
theorem rd26 {H : Type} {enc : TypeId × Value → H} {w : World} {base : Nat} {spare : Nat → Bool} {held : Bool} {fuel : Nat} {cs : List Value} {x : DataW H × List MemPlace}
    (h : DataW.trod enc Tryd.prog w base spare held fuel 26 cs = some x) (hw : Wt Tryd.prog 26 x.1) : R26 w cs := by
  exact rd_int Tryd.underlying26 h
def R9 (w : World) (cs : List Value) : Prop := ∃ (x : ByteArray), cs = [.string x] ∧ x.size ≤ reachBytes
theorem rd9 {H : Type} {enc : TypeId × Value → H} {w : World} {base : Nat} {spare : Nat → Bool} {held : Bool} {fuel : Nat} {cs : List Value} {x : DataW H × List MemPlace}
    (h : DataW.trod enc Tryd.prog w base spare held fuel 9 cs = some x) (hw : Wt Tryd.prog 9 x.1) : R9 w cs := by
  exact rd_string Tryd.underlying9 h hw
def R44 (w : World) (cs : List Value) : Prop := ∃ (xa : Option Addr) (xl : Nat) (xc : Nat), cs = [.slice xa xl xc] ∧ SliceAt 12 B25 R25 w xa xl xc
theorem rd44 {H : Type} {enc : TypeId × Value → H} {w : World} {base : Nat} {spare : Nat → Bool} {held : Bool} {fuel : Nat} {cs : List Value} {x : DataW H × List MemPlace}
    (h : DataW.trod enc Tryd.prog w base spare held fuel 44 cs = some x) (hw : Wt Tryd.prog 44 x.1) : R44 w cs := by
  exact rd_slice (s := 12) (B := B25) (R := R25) Tryd.underlying44 cells25 bytes25 (fun _ _ _ h_ w_ => rd25 h_ w_) h hw
def R48 (w : World) (cs : List Value) : Prop := ∃ (xa : Option Addr) (xl : Nat) (xc : Nat), cs = [.slice xa xl xc] ∧ SliceAt 1 B5 R5 w xa xl xc
theorem rd48 {H : Type} {enc : TypeId × Value → H} {w : World} {base : Nat} {spare : Nat → Bool} {held : Bool} {fuel : Nat} {cs : List Value} {x : DataW H × List MemPlace}
    (h : DataW.trod enc Tryd.prog w base spare held fuel 48 cs = some x) (hw : Wt Tryd.prog 48 x.1) : R48 w cs := by
  exact rd_slice (s := 1) (B := B5) (R := R5) Tryd.underlying48 cells5 bytes5 (fun _ _ _ h_ w_ => rd5 h_ w_) h hw
end Go.Proofs.YtledahfkpnbfcaaDoor
