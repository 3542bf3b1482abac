/- How the parameters of this seat's laws read: each type's cells, written out. Printed by wip/tools/mkrow.py. -/
import Derived.Test.YtiaginlnapiijaaGreatDoorRd
import Derived.Test.YtiaginlnapiijaaGreatDoorRows
set_option linter.unusedVariables false
set_option linter.unusedSimpArgs false
set_option maxRecDepth 100000
namespace Go.Proofs.YtiaginlnapiijaaGreatDoor
open Go.ChangeShapes Go.WideShapes Go.Deep

theorem cells33 : Tryz.prog.cellsOf 33 = 1 := by kernel_rfl
theorem cells4 : Tryz.prog.cellsOf 4 = 1 := by kernel_rfl
theorem cells3 : Tryz.prog.cellsOf 3 = 1 := by kernel_rfl
theorem cells34 : Tryz.prog.cellsOf 34 = 1 := by kernel_rfl
theorem cells36 : Tryz.prog.cellsOf 36 = 5 := by kernel_rfl
theorem cells22 : Tryz.prog.cellsOf 22 = 1 := by kernel_rfl
def B36 : Nat := 32
theorem bytes36 : Tryz.prog.bytesOf 36 = B36 := by kernel_rfl
def R33 (w : World) (cs : List Value) : Prop := ∃ (x : Int), cs = [.int .u32 x] ∧ (Lit.int .u32 x).wf = true
theorem rd33 {H : Type} {enc : TypeId × Value → H} {w : World} {base : Nat} {spare : Nat → Bool} {held : Bool} {fuel : Nat} {cs : List Value} {x : DataW H × List MemPlace}
    (h : DataW.trod enc Tryz.prog w base spare held fuel 33 cs = some x) (hw : Wt Tryz.prog 33 x.1) : R33 w cs := by
  exact rd_int Tryz.underlying33 h
def R4 (w : World) (cs : List Value) : Prop := ∃ (x : Bool), cs = [.bool x]
theorem rd4 {H : Type} {enc : TypeId × Value → H} {w : World} {base : Nat} {spare : Nat → Bool} {held : Bool} {fuel : Nat} {cs : List Value} {x : DataW H × List MemPlace}
    (h : DataW.trod enc Tryz.prog w base spare held fuel 4 cs = some x) (hw : Wt Tryz.prog 4 x.1) : R4 w cs := by
  exact rd_bool Tryz.underlying4 h
def R3 (w : World) (cs : List Value) : Prop := ∃ (x : Int), cs = [.int .i64 x] ∧ (Lit.int .i64 x).wf = true
theorem rd3 {H : Type} {enc : TypeId × Value → H} {w : World} {base : Nat} {spare : Nat → Bool} {held : Bool} {fuel : Nat} {cs : List Value} {x : DataW H × List MemPlace}
    (h : DataW.trod enc Tryz.prog w base spare held fuel 3 cs = some x) (hw : Wt Tryz.prog 3 x.1) : R3 w cs := by
  exact rd_int Tryz.underlying3 h
def R34 (w : World) (cs : List Value) : Prop := ∃ (x : Int), cs = [.int .u64 x] ∧ (Lit.int .u64 x).wf = true
theorem rd34 {H : Type} {enc : TypeId × Value → H} {w : World} {base : Nat} {spare : Nat → Bool} {held : Bool} {fuel : Nat} {cs : List Value} {x : DataW H × List MemPlace}
    (h : DataW.trod enc Tryz.prog w base spare held fuel 34 cs = some x) (hw : Wt Tryz.prog 34 x.1) : R34 w cs := by
  exact rd_int Tryz.underlying34 h
def R36 (w : World) (cs : List Value) : Prop := ∃ (x0 : Int) (x1 : Bool) (x2 : Int) (x3 : Int) (x4 : Int), cs = [.int .u32 x0, .bool x1, .int .i64 x2, .int .u64 x3, .int .u64 x4] ∧ (Lit.int .u32 x0).wf = true ∧ (Lit.int .i64 x2).wf = true ∧ (Lit.int .u64 x3).wf = true ∧ (Lit.int .u64 x4).wf = true
theorem rd36 {H : Type} {enc : TypeId × Value → H} {w : World} {base : Nat} {spare : Nat → Bool} {held : Bool} {fuel : Nat} {cs : List Value} {x : DataW H × List MemPlace}
    (h : DataW.trod enc Tryz.prog w base spare held fuel 36 cs = some x) (hw : Wt Tryz.prog 36 x.1) : R36 w cs := by
  obtain ⟨hl, _⟩ := rd_struct Tryz.underlying36 h hw
  rw [cells36] at hl
  match cs, hl, h with
  | [c0, c1, c2, c3, c4], _, h =>
    obtain ⟨_, gx⟩ := rd_struct Tryz.underlying36 h hw
    obtain ⟨nx0, yx0, tx0, wx0⟩ := gx 0 _ rfl
    replace tx0 : DataW.trod enc Tryz.prog w base spare held nx0 33 [c0] = some yx0 := by simpa [cells33] using tx0
    obtain ⟨x0, ex0, fx0⟩ := rd_int Tryz.underlying33 tx0
    obtain rfl := List.cons.inj ex0 |>.1
    obtain ⟨nx1, yx1, tx1, wx1⟩ := gx 1 _ rfl
    replace tx1 : DataW.trod enc Tryz.prog w base spare held nx1 4 [c1] = some yx1 := by simpa [cells4] using tx1
    obtain ⟨x1, ex1⟩ := rd_bool Tryz.underlying4 tx1
    obtain rfl := List.cons.inj ex1 |>.1
    obtain ⟨nx2, yx2, tx2, wx2⟩ := gx 2 _ rfl
    replace tx2 : DataW.trod enc Tryz.prog w base spare held nx2 3 [c2] = some yx2 := by simpa [cells3] using tx2
    obtain ⟨x2, ex2, fx2⟩ := rd_int Tryz.underlying3 tx2
    obtain rfl := List.cons.inj ex2 |>.1
    obtain ⟨nx3, yx3, tx3, wx3⟩ := gx 3 _ rfl
    replace tx3 : DataW.trod enc Tryz.prog w base spare held nx3 34 [c3] = some yx3 := by simpa [cells34] using tx3
    obtain ⟨x3, ex3, fx3⟩ := rd_int Tryz.underlying34 tx3
    obtain rfl := List.cons.inj ex3 |>.1
    obtain ⟨nx4, yx4, tx4, wx4⟩ := gx 4 _ rfl
    replace tx4 : DataW.trod enc Tryz.prog w base spare held nx4 34 [c4] = some yx4 := by simpa [cells34] using tx4
    obtain ⟨x4, ex4, fx4⟩ := rd_int Tryz.underlying34 tx4
    obtain rfl := List.cons.inj ex4 |>.1
    exact ⟨x0, x1, x2, x3, x4, rfl, fx0, fx2, fx3, fx4⟩
def R22 (w : World) (cs : List Value) : Prop := ∃ (xa : Option Addr) (xl : Nat) (xc : Nat), cs = [.slice xa xl xc] ∧ SliceAt 5 B36 R36 w xa xl xc
theorem rd22 {H : Type} {enc : TypeId × Value → H} {w : World} {base : Nat} {spare : Nat → Bool} {held : Bool} {fuel : Nat} {cs : List Value} {x : DataW H × List MemPlace}
    (h : DataW.trod enc Tryz.prog w base spare held fuel 22 cs = some x) (hw : Wt Tryz.prog 22 x.1) : R22 w cs := by
  exact rd_slice (s := 5) (B := B36) (R := R36) Tryz.underlying22 cells36 bytes36 (fun _ _ _ h_ w_ => rd36 h_ w_) h hw
end Go.Proofs.YtiaginlnapiijaaGreatDoor
