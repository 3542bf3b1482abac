/- How the parameters of this seat's laws read: each type's cells, written out. Printed by wip/tools/mkrow.py. -/
import Derived.Test.YtjnlpaojaikjaaaRd
import Derived.Test.YtjnlpaojaikjaaaRows
set_option linter.unusedVariables false
set_option linter.unusedSimpArgs false
namespace Go.Proofs.Ytjnlpaojaikjaaa
open Go.ChangeShapes Go.WideShapes Go.Deep

theorem cells3 : Try.prog.cellsOf 3 = 1 := by kernel_rfl
theorem cells36 : Try.prog.cellsOf 36 = 1 := by kernel_rfl
theorem cells42 : Try.prog.cellsOf 42 = 2 := by kernel_rfl
theorem cells22 : Try.prog.cellsOf 22 = 1 := by kernel_rfl
theorem cells24 : Try.prog.cellsOf 24 = 2 := by kernel_rfl
theorem cells35 : Try.prog.cellsOf 35 = 1 := by kernel_rfl
theorem cells38 : Try.prog.cellsOf 38 = 5 := by kernel_rfl
theorem cells25 : Try.prog.cellsOf 25 = 1 := by kernel_rfl
theorem cells5 : Try.prog.cellsOf 5 = 1 := by kernel_rfl
theorem cells4 : Try.prog.cellsOf 4 = 1 := by kernel_rfl
def B3 : Nat := 8
theorem bytes3 : Try.prog.bytesOf 3 = B3 := by kernel_rfl
def B38 : Nat := 56
theorem bytes38 : Try.prog.bytesOf 38 = B38 := by kernel_rfl
def B42 : Nat := 32
theorem bytes42 : Try.prog.bytesOf 42 = B42 := by kernel_rfl
def R3 (w : World) (cs : List Value) : Prop := ∃ (x : Int), cs = [.int .i64 x] ∧ (Lit.int .i64 x).wf = true
theorem rd3 {H : Type} {enc : TypeId × Value → H} {w : World} {base : Nat} {spare : Nat → Bool} {held : Bool} {fuel : Nat} {cs : List Value} {x : DataW H × List MemPlace}
    (h : DataW.trod enc Try.prog w base spare held fuel 3 cs = some x) (hw : Wt Try.prog 3 x.1) : R3 w cs := by
  exact rd_int Try.underlying3 h
def R36 (w : World) (cs : List Value) : Prop := ∃ (xa : Option Addr) (xl : Nat) (xc : Nat), cs = [.slice xa xl xc] ∧ SliceAt 1 B3 R3 w xa xl xc
theorem rd36 {H : Type} {enc : TypeId × Value → H} {w : World} {base : Nat} {spare : Nat → Bool} {held : Bool} {fuel : Nat} {cs : List Value} {x : DataW H × List MemPlace}
    (h : DataW.trod enc Try.prog w base spare held fuel 36 cs = some x) (hw : Wt Try.prog 36 x.1) : R36 w cs := by
  exact rd_slice (s := 1) (B := B3) (R := R3) Try.underlying36 cells3 bytes3 (fun _ _ _ h_ w_ => rd3 h_ w_) h hw
def R42 (w : World) (cs : List Value) : Prop := ∃ (x0 : Int) (x1a : Option Addr) (x1l : Nat) (x1c : Nat), cs = [.int .i64 x0, .slice x1a x1l x1c] ∧ (Lit.int .i64 x0).wf = true ∧ SliceAt 1 B3 R3 w x1a x1l x1c
theorem rd42 {H : Type} {enc : TypeId × Value → H} {w : World} {base : Nat} {spare : Nat → Bool} {held : Bool} {fuel : Nat} {cs : List Value} {x : DataW H × List MemPlace}
    (h : DataW.trod enc Try.prog w base spare held fuel 42 cs = some x) (hw : Wt Try.prog 42 x.1) : R42 w cs := by
  obtain ⟨hl, _⟩ := rd_struct Try.underlying42 h hw
  rw [cells42] at hl
  match cs, hl, h with
  | [c0, c1], _, h =>
    obtain ⟨_, gx⟩ := rd_struct Try.underlying42 h hw
    obtain ⟨nx0, yx0, tx0, wx0⟩ := gx 0 _ rfl
    replace tx0 : DataW.trod enc Try.prog w base spare held nx0 3 [c0] = some yx0 := by simpa [cells3] using tx0
    obtain ⟨x0, ex0, fx0⟩ := rd_int Try.underlying3 tx0
    obtain rfl := List.cons.inj ex0 |>.1
    obtain ⟨nx1, yx1, tx1, wx1⟩ := gx 1 _ rfl
    replace tx1 : DataW.trod enc Try.prog w base spare held nx1 36 [c1] = some yx1 := by simpa [cells36] using tx1
    obtain ⟨x1a, x1l, x1c, ex1, fx1⟩ := rd_slice (s := 1) (B := B3) (R := R3) Try.underlying36 cells3 bytes3 (fun _ _ _ h_ w_ => rd3 h_ w_) tx1 wx1
    obtain rfl := List.cons.inj ex1 |>.1
    exact ⟨x0, x1a, x1l, x1c, rfl, fx0, fx1⟩
def R22 (w : World) (cs : List Value) : Prop := ∃ (xa : Option Addr) (xl : Nat) (xc : Nat), cs = [.slice xa xl xc] ∧ SliceAt 2 B42 R42 w xa xl xc
theorem rd22 {H : Type} {enc : TypeId × Value → H} {w : World} {base : Nat} {spare : Nat → Bool} {held : Bool} {fuel : Nat} {cs : List Value} {x : DataW H × List MemPlace}
    (h : DataW.trod enc Try.prog w base spare held fuel 22 cs = some x) (hw : Wt Try.prog 22 x.1) : R22 w cs := by
  exact rd_slice (s := 2) (B := B42) (R := R42) Try.underlying22 cells42 bytes42 (fun _ _ _ h_ w_ => rd42 h_ w_) h hw
def R24 (w : World) (cs : List Value) : Prop := ∃ (x0 : Int) (x1a : Option Addr) (x1l : Nat) (x1c : Nat), cs = [.int .i64 x0, .slice x1a x1l x1c] ∧ (Lit.int .i64 x0).wf = true ∧ SliceAt 2 B42 R42 w x1a x1l x1c
theorem rd24 {H : Type} {enc : TypeId × Value → H} {w : World} {base : Nat} {spare : Nat → Bool} {held : Bool} {fuel : Nat} {cs : List Value} {x : DataW H × List MemPlace}
    (h : DataW.trod enc Try.prog w base spare held fuel 24 cs = some x) (hw : Wt Try.prog 24 x.1) : R24 w cs := by
  obtain ⟨hl, _⟩ := rd_struct Try.underlying24 h hw
  rw [cells24] at hl
  match cs, hl, h with
  | [c0, c1], _, h =>
    obtain ⟨_, gx⟩ := rd_struct Try.underlying24 h hw
    obtain ⟨nx0, yx0, tx0, wx0⟩ := gx 0 _ rfl
    replace tx0 : DataW.trod enc Try.prog w base spare held nx0 3 [c0] = some yx0 := by simpa [cells3] using tx0
    obtain ⟨x0, ex0, fx0⟩ := rd_int Try.underlying3 tx0
    obtain rfl := List.cons.inj ex0 |>.1
    obtain ⟨nx1, yx1, tx1, wx1⟩ := gx 1 _ rfl
    replace tx1 : DataW.trod enc Try.prog w base spare held nx1 22 [c1] = some yx1 := by simpa [cells22] using tx1
    obtain ⟨x1a, x1l, x1c, ex1, fx1⟩ := rd_slice (s := 2) (B := B42) (R := R42) Try.underlying22 cells42 bytes42 (fun _ _ _ h_ w_ => rd42 h_ w_) tx1 wx1
    obtain rfl := List.cons.inj ex1 |>.1
    exact ⟨x0, x1a, x1l, x1c, rfl, fx0, fx1⟩
def R35 (w : World) (cs : List Value) : Prop := ∃ (x : Int), cs = [.int .u64 x] ∧ (Lit.int .u64 x).wf = true
theorem rd35 {H : Type} {enc : TypeId × Value → H} {w : World} {base : Nat} {spare : Nat → Bool} {held : Bool} {fuel : Nat} {cs : List Value} {x : DataW H × List MemPlace}
    (h : DataW.trod enc Try.prog w base spare held fuel 35 cs = some x) (hw : Wt Try.prog 35 x.1) : R35 w cs := by
  exact rd_int Try.underlying35 h
def R38 (w : World) (cs : List Value) : Prop := ∃ (x0 : Int) (x1 : Int) (x2 : Int) (x3 : Int) (x4a : Option Addr) (x4l : Nat) (x4c : Nat), cs = [.int .i64 x0, .int .i64 x1, .int .i64 x2, .int .u64 x3, .slice x4a x4l x4c] ∧ (Lit.int .i64 x0).wf = true ∧ (Lit.int .i64 x1).wf = true ∧ (Lit.int .i64 x2).wf = true ∧ (Lit.int .u64 x3).wf = true ∧ SliceAt 1 B3 R3 w x4a x4l x4c
theorem rd38 {H : Type} {enc : TypeId × Value → H} {w : World} {base : Nat} {spare : Nat → Bool} {held : Bool} {fuel : Nat} {cs : List Value} {x : DataW H × List MemPlace}
    (h : DataW.trod enc Try.prog w base spare held fuel 38 cs = some x) (hw : Wt Try.prog 38 x.1) : R38 w cs := by
  obtain ⟨hl, _⟩ := rd_struct Try.underlying38 h hw
  rw [cells38] at hl
  match cs, hl, h with
  | [c0, c1, c2, c3, c4], _, h =>
    obtain ⟨_, gx⟩ := rd_struct Try.underlying38 h hw
    obtain ⟨nx0, yx0, tx0, wx0⟩ := gx 0 _ rfl
    replace tx0 : DataW.trod enc Try.prog w base spare held nx0 3 [c0] = some yx0 := by simpa [cells3] using tx0
    obtain ⟨x0, ex0, fx0⟩ := rd_int Try.underlying3 tx0
    obtain rfl := List.cons.inj ex0 |>.1
    obtain ⟨nx1, yx1, tx1, wx1⟩ := gx 1 _ rfl
    replace tx1 : DataW.trod enc Try.prog w base spare held nx1 3 [c1] = some yx1 := by simpa [cells3] using tx1
    obtain ⟨x1, ex1, fx1⟩ := rd_int Try.underlying3 tx1
    obtain rfl := List.cons.inj ex1 |>.1
    obtain ⟨nx2, yx2, tx2, wx2⟩ := gx 2 _ rfl
    replace tx2 : DataW.trod enc Try.prog w base spare held nx2 3 [c2] = some yx2 := by simpa [cells3] using tx2
    obtain ⟨x2, ex2, fx2⟩ := rd_int Try.underlying3 tx2
    obtain rfl := List.cons.inj ex2 |>.1
    obtain ⟨nx3, yx3, tx3, wx3⟩ := gx 3 _ rfl
    replace tx3 : DataW.trod enc Try.prog w base spare held nx3 35 [c3] = some yx3 := by simpa [cells35] using tx3
    obtain ⟨x3, ex3, fx3⟩ := rd_int Try.underlying35 tx3
    obtain rfl := List.cons.inj ex3 |>.1
    obtain ⟨nx4, yx4, tx4, wx4⟩ := gx 4 _ rfl
    replace tx4 : DataW.trod enc Try.prog w base spare held nx4 36 [c4] = some yx4 := by simpa [cells36] using tx4
    obtain ⟨x4a, x4l, x4c, ex4, fx4⟩ := rd_slice (s := 1) (B := B3) (R := R3) Try.underlying36 cells3 bytes3 (fun _ _ _ h_ w_ => rd3 h_ w_) tx4 wx4
    obtain rfl := List.cons.inj ex4 |>.1
    exact ⟨x0, x1, x2, x3, x4a, x4l, x4c, rfl, fx0, fx1, fx2, fx3, fx4⟩
def R25 (w : World) (cs : List Value) : Prop := ∃ (xa : Option Addr) (xl : Nat) (xc : Nat), cs = [.slice xa xl xc] ∧ SliceAt 5 B38 R38 w xa xl xc
theorem rd25 {H : Type} {enc : TypeId × Value → H} {w : World} {base : Nat} {spare : Nat → Bool} {held : Bool} {fuel : Nat} {cs : List Value} {x : DataW H × List MemPlace}
    (h : DataW.trod enc Try.prog w base spare held fuel 25 cs = some x) (hw : Wt Try.prog 25 x.1) : R25 w cs := by
  exact rd_slice (s := 5) (B := B38) (R := R38) Try.underlying25 cells38 bytes38 (fun _ _ _ h_ w_ => rd38 h_ w_) h hw
def R5 (w : World) (cs : List Value) : Prop := ∃ (x : Int), cs = [.int .u8 x] ∧ (Lit.int .u8 x).wf = true
theorem rd5 {H : Type} {enc : TypeId × Value → H} {w : World} {base : Nat} {spare : Nat → Bool} {held : Bool} {fuel : Nat} {cs : List Value} {x : DataW H × List MemPlace}
    (h : DataW.trod enc Try.prog w base spare held fuel 5 cs = some x) (hw : Wt Try.prog 5 x.1) : R5 w cs := by
  exact rd_int Try.underlying5 h
def R4 (w : World) (cs : List Value) : Prop := ∃ (x : Bool), cs = [.bool x]
theorem rd4 {H : Type} {enc : TypeId × Value → H} {w : World} {base : Nat} {spare : Nat → Bool} {held : Bool} {fuel : Nat} {cs : List Value} {x : DataW H × List MemPlace}
    (h : DataW.trod enc Try.prog w base spare held fuel 4 cs = some x) (hw : Wt Try.prog 4 x.1) : R4 w cs := by
  exact rd_bool Try.underlying4 h
end Go.Proofs.Ytjnlpaojaikjaaa
