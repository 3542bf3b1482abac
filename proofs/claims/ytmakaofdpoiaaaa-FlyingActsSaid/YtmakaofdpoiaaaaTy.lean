/- How the parameters of this seat's laws read: each type's cells, written out. Printed by wip/tools/mkrow.py. -/
import Derived.Test.YtmakaofdpoiaaaaRd
import Derived.Test.YtmakaofdpoiaaaaRows
set_option linter.unusedVariables false
set_option linter.unusedSimpArgs false
namespace Go.Proofs.Ytmakaofdpoiaaaa
open Go.ChangeShapes Go.WideShapes Go.Deep

theorem cells3 : Try.prog.cellsOf 3 = 1 := by kernel_rfl
theorem cells4 : Try.prog.cellsOf 4 = 1 := by kernel_rfl
theorem cells30 : Try.prog.cellsOf 30 = 3 := by kernel_rfl
theorem cells22 : Try.prog.cellsOf 22 = 1 := by kernel_rfl
theorem cells23 : Try.prog.cellsOf 23 = 1 := by kernel_rfl
theorem cells25 : Try.prog.cellsOf 25 = 3 := by kernel_rfl
theorem cells26 : Try.prog.cellsOf 26 = 1 := by kernel_rfl
theorem cells50 : Try.prog.cellsOf 50 = 3 := by kernel_rfl
theorem cells48 : Try.prog.cellsOf 48 = 1 := by kernel_rfl
def B30 : Nat := 24
theorem bytes30 : Try.prog.bytesOf 30 = B30 := by kernel_rfl
def B50 : Nat := 16
theorem bytes50 : Try.prog.bytesOf 50 = B50 := by kernel_rfl
def R3 (w : World) (cs : List Value) : Prop := ∃ (x : Int), cs = [.int .i64 x] ∧ (Lit.int .i64 x).wf = true
theorem rd3 {H : Type} {enc : TypeId × Value → H} {w : World} {base : Nat} {spare : Nat → Bool} {held : Bool} {fuel : Nat} {cs : List Value} {x : DataW H × List MemPlace}
    (h : DataW.trod enc Try.prog w base spare held fuel 3 cs = some x) (hw : Wt Try.prog 3 x.1) : R3 w cs := by
  exact rd_int Try.underlying3 h
def R4 (w : World) (cs : List Value) : Prop := ∃ (x : Bool), cs = [.bool x]
theorem rd4 {H : Type} {enc : TypeId × Value → H} {w : World} {base : Nat} {spare : Nat → Bool} {held : Bool} {fuel : Nat} {cs : List Value} {x : DataW H × List MemPlace}
    (h : DataW.trod enc Try.prog w base spare held fuel 4 cs = some x) (hw : Wt Try.prog 4 x.1) : R4 w cs := by
  exact rd_bool Try.underlying4 h
def R30 (w : World) (cs : List Value) : Prop := ∃ (x0 : Int) (x1 : Int) (x2 : Bool), cs = [.int .i64 x0, .int .i64 x1, .bool x2] ∧ (Lit.int .i64 x0).wf = true ∧ (Lit.int .i64 x1).wf = true
theorem rd30 {H : Type} {enc : TypeId × Value → H} {w : World} {base : Nat} {spare : Nat → Bool} {held : Bool} {fuel : Nat} {cs : List Value} {x : DataW H × List MemPlace}
    (h : DataW.trod enc Try.prog w base spare held fuel 30 cs = some x) (hw : Wt Try.prog 30 x.1) : R30 w cs := by
  obtain ⟨hl, _⟩ := rd_struct Try.underlying30 h hw
  rw [cells30] at hl
  match cs, hl, h with
  | [c0, c1, c2], _, h =>
    obtain ⟨_, gx⟩ := rd_struct Try.underlying30 h hw
    obtain ⟨nx0, yx0, tx0, wx0⟩ := gx 0 _ rfl
    replace tx0 : DataW.trod enc Try.prog w base spare held nx0 3 [c0] = some yx0 := by simpa [cells3] using tx0
    obtain ⟨x0, ex0, fx0⟩ := rd_int Try.underlying3 tx0
    obtain rfl := List.cons.inj ex0 |>.1
    obtain ⟨nx1, yx1, tx1, wx1⟩ := gx 1 _ rfl
    replace tx1 : DataW.trod enc Try.prog w base spare held nx1 3 [c1] = some yx1 := by simpa [cells3] using tx1
    obtain ⟨x1, ex1, fx1⟩ := rd_int Try.underlying3 tx1
    obtain rfl := List.cons.inj ex1 |>.1
    obtain ⟨nx2, yx2, tx2, wx2⟩ := gx 2 _ rfl
    replace tx2 : DataW.trod enc Try.prog w base spare held nx2 4 [c2] = some yx2 := by simpa [cells4] using tx2
    obtain ⟨x2, ex2⟩ := rd_bool Try.underlying4 tx2
    obtain rfl := List.cons.inj ex2 |>.1
    exact ⟨x0, x1, x2, rfl, fx0, fx1⟩
def R22 (w : World) (cs : List Value) : Prop := ∃ (xa : Option Addr) (xl : Nat) (xc : Nat), cs = [.slice xa xl xc] ∧ SliceAt 3 B30 R30 w xa xl xc
theorem rd22 {H : Type} {enc : TypeId × Value → H} {w : World} {base : Nat} {spare : Nat → Bool} {held : Bool} {fuel : Nat} {cs : List Value} {x : DataW H × List MemPlace}
    (h : DataW.trod enc Try.prog w base spare held fuel 22 cs = some x) (hw : Wt Try.prog 22 x.1) : R22 w cs := by
  exact rd_slice (s := 3) (B := B30) (R := R30) Try.underlying22 cells30 bytes30 (fun _ _ _ h_ w_ => rd30 h_ w_) h hw
def R23 (w : World) (cs : List Value) : Prop := ∃ (x : Int), cs = [.int .u64 x] ∧ (Lit.int .u64 x).wf = true
theorem rd23 {H : Type} {enc : TypeId × Value → H} {w : World} {base : Nat} {spare : Nat → Bool} {held : Bool} {fuel : Nat} {cs : List Value} {x : DataW H × List MemPlace}
    (h : DataW.trod enc Try.prog w base spare held fuel 23 cs = some x) (hw : Wt Try.prog 23 x.1) : R23 w cs := by
  exact rd_int Try.underlying23 h
def R25 (w : World) (cs : List Value) : Prop := ∃ (x0a : Option Addr) (x0l : Nat) (x0c : Nat) (x1 : Int) (x2 : Int), cs = [.slice x0a x0l x0c, .int .u64 x1, .int .u64 x2] ∧ SliceAt 3 B30 R30 w x0a x0l x0c ∧ (Lit.int .u64 x1).wf = true ∧ (Lit.int .u64 x2).wf = true
theorem rd25 {H : Type} {enc : TypeId × Value → H} {w : World} {base : Nat} {spare : Nat → Bool} {held : Bool} {fuel : Nat} {cs : List Value} {x : DataW H × List MemPlace}
    (h : DataW.trod enc Try.prog w base spare held fuel 25 cs = some x) (hw : Wt Try.prog 25 x.1) : R25 w cs := by
  obtain ⟨hl, _⟩ := rd_struct Try.underlying25 h hw
  rw [cells25] at hl
  match cs, hl, h with
  | [c0, c1, c2], _, h =>
    obtain ⟨_, gx⟩ := rd_struct Try.underlying25 h hw
    obtain ⟨nx0, yx0, tx0, wx0⟩ := gx 0 _ rfl
    replace tx0 : DataW.trod enc Try.prog w base spare held nx0 22 [c0] = some yx0 := by simpa [cells22] using tx0
    obtain ⟨x0a, x0l, x0c, ex0, fx0⟩ := rd_slice (s := 3) (B := B30) (R := R30) Try.underlying22 cells30 bytes30 (fun _ _ _ h_ w_ => rd30 h_ w_) tx0 wx0
    obtain rfl := List.cons.inj ex0 |>.1
    obtain ⟨nx1, yx1, tx1, wx1⟩ := gx 1 _ rfl
    replace tx1 : DataW.trod enc Try.prog w base spare held nx1 23 [c1] = some yx1 := by simpa [cells23] using tx1
    obtain ⟨x1, ex1, fx1⟩ := rd_int Try.underlying23 tx1
    obtain rfl := List.cons.inj ex1 |>.1
    obtain ⟨nx2, yx2, tx2, wx2⟩ := gx 2 _ rfl
    replace tx2 : DataW.trod enc Try.prog w base spare held nx2 23 [c2] = some yx2 := by simpa [cells23] using tx2
    obtain ⟨x2, ex2, fx2⟩ := rd_int Try.underlying23 tx2
    obtain rfl := List.cons.inj ex2 |>.1
    exact ⟨x0a, x0l, x0c, x1, x2, rfl, fx0, fx1, fx2⟩
def R26 (w : World) (cs : List Value) : Prop := ∃ (x : Int), cs = [.int .u16 x] ∧ (Lit.int .u16 x).wf = true
theorem rd26 {H : Type} {enc : TypeId × Value → H} {w : World} {base : Nat} {spare : Nat → Bool} {held : Bool} {fuel : Nat} {cs : List Value} {x : DataW H × List MemPlace}
    (h : DataW.trod enc Try.prog w base spare held fuel 26 cs = some x) (hw : Wt Try.prog 26 x.1) : R26 w cs := by
  exact rd_int Try.underlying26 h
def R50 (w : World) (cs : List Value) : Prop := ∃ (x0 : Int) (x1 : Bool) (x2 : Int), cs = [.int .i64 x0, .bool x1, .int .u16 x2] ∧ (Lit.int .i64 x0).wf = true ∧ (Lit.int .u16 x2).wf = true
theorem rd50 {H : Type} {enc : TypeId × Value → H} {w : World} {base : Nat} {spare : Nat → Bool} {held : Bool} {fuel : Nat} {cs : List Value} {x : DataW H × List MemPlace}
    (h : DataW.trod enc Try.prog w base spare held fuel 50 cs = some x) (hw : Wt Try.prog 50 x.1) : R50 w cs := by
  obtain ⟨hl, _⟩ := rd_struct Try.underlying50 h hw
  rw [cells50] at hl
  match cs, hl, h with
  | [c0, c1, c2], _, h =>
    obtain ⟨_, gx⟩ := rd_struct Try.underlying50 h hw
    obtain ⟨nx0, yx0, tx0, wx0⟩ := gx 0 _ rfl
    replace tx0 : DataW.trod enc Try.prog w base spare held nx0 3 [c0] = some yx0 := by simpa [cells3] using tx0
    obtain ⟨x0, ex0, fx0⟩ := rd_int Try.underlying3 tx0
    obtain rfl := List.cons.inj ex0 |>.1
    obtain ⟨nx1, yx1, tx1, wx1⟩ := gx 1 _ rfl
    replace tx1 : DataW.trod enc Try.prog w base spare held nx1 4 [c1] = some yx1 := by simpa [cells4] using tx1
    obtain ⟨x1, ex1⟩ := rd_bool Try.underlying4 tx1
    obtain rfl := List.cons.inj ex1 |>.1
    obtain ⟨nx2, yx2, tx2, wx2⟩ := gx 2 _ rfl
    replace tx2 : DataW.trod enc Try.prog w base spare held nx2 26 [c2] = some yx2 := by simpa [cells26] using tx2
    obtain ⟨x2, ex2, fx2⟩ := rd_int Try.underlying26 tx2
    obtain rfl := List.cons.inj ex2 |>.1
    exact ⟨x0, x1, x2, rfl, fx0, fx2⟩
def R48 (w : World) (cs : List Value) : Prop := ∃ (xa : Option Addr) (xl : Nat) (xc : Nat), cs = [.slice xa xl xc] ∧ SliceAt 3 B50 R50 w xa xl xc
theorem rd48 {H : Type} {enc : TypeId × Value → H} {w : World} {base : Nat} {spare : Nat → Bool} {held : Bool} {fuel : Nat} {cs : List Value} {x : DataW H × List MemPlace}
    (h : DataW.trod enc Try.prog w base spare held fuel 48 cs = some x) (hw : Wt Try.prog 48 x.1) : R48 w cs := by
  exact rd_slice (s := 3) (B := B50) (R := R50) Try.underlying48 cells50 bytes50 (fun _ _ _ h_ w_ => rd50 h_ w_) h hw
end Go.Proofs.Ytmakaofdpoiaaaa
