/- How the parameters of this seat's laws read: each type's cells, written out. Printed by wip/tools/mkrow.py. -/
import Derived.Test.YtkajoepgebfjoaaRd
import Derived.Test.YtkajoepgebfjoaaRows
namespace Go.Proofs.Ytkajoepgebfjoaa
open Go.ChangeShapes Go.WideShapes Go.Deep

theorem cells3 : Try.prog.cellsOf 3 = 1 := by kernel_rfl
theorem cells5 : Try.prog.cellsOf 5 = 1 := by kernel_rfl
theorem cells22 : Try.prog.cellsOf 22 = 1 := by kernel_rfl
theorem cells23 : Try.prog.cellsOf 23 = 1 := by kernel_rfl
theorem cells9 : Try.prog.cellsOf 9 = 1 := by kernel_rfl
theorem cells25 : Try.prog.cellsOf 25 = 3 := by kernel_rfl
def B5 : Nat := 1
theorem bytes5 : Try.prog.bytesOf 5 = B5 := by kernel_rfl
def R3 (w : World) (cs : List Value) : Prop := ∃ (x : Int), cs = [.int .i64 x] ∧ (Lit.int .i64 x).wf = true
theorem rd3 {H : Type} {enc : TypeId × Value → H} {w : World} {base : Nat} {spare : Nat → Bool} {held : Bool} {fuel : Nat} {cs : List Value} {x : DataW H × List MemPlace}
    (h : DataW.trod enc Try.prog w base spare held fuel 3 cs = some x) (hw : Wt Try.prog 3 x.1) : R3 w cs := by
  exact rd_int Try.underlying3 h
def R5 (w : World) (cs : List Value) : Prop := ∃ (x : Int), cs = [.int .u8 x] ∧ (Lit.int .u8 x).wf = true
theorem rd5 {H : Type} {enc : TypeId × Value → H} {w : World} {base : Nat} {spare : Nat → Bool} {held : Bool} {fuel : Nat} {cs : List Value} {x : DataW H × List MemPlace}
    (h : DataW.trod enc Try.prog w base spare held fuel 5 cs = some x) (hw : Wt Try.prog 5 x.1) : R5 w cs := by
  exact rd_int Try.underlying5 h
def R22 (w : World) (cs : List Value) : Prop := ∃ (xa : Option Addr) (xl : Nat) (xc : Nat), cs = [.slice xa xl xc] ∧ SliceAt 1 B5 R5 w xa xl xc
theorem rd22 {H : Type} {enc : TypeId × Value → H} {w : World} {base : Nat} {spare : Nat → Bool} {held : Bool} {fuel : Nat} {cs : List Value} {x : DataW H × List MemPlace}
    (h : DataW.trod enc Try.prog w base spare held fuel 22 cs = some x) (hw : Wt Try.prog 22 x.1) : R22 w cs := by
  exact rd_slice (s := 1) (B := B5) (R := R5) Try.underlying22 cells5 bytes5 (fun _ _ _ h_ w_ => rd5 h_ w_) h hw
def R23 (w : World) (cs : List Value) : Prop := ∃ (x : Int), cs = [.int .u64 x] ∧ (Lit.int .u64 x).wf = true
theorem rd23 {H : Type} {enc : TypeId × Value → H} {w : World} {base : Nat} {spare : Nat → Bool} {held : Bool} {fuel : Nat} {cs : List Value} {x : DataW H × List MemPlace}
    (h : DataW.trod enc Try.prog w base spare held fuel 23 cs = some x) (hw : Wt Try.prog 23 x.1) : R23 w cs := by
  exact rd_int Try.underlying23 h
def R9 (w : World) (cs : List Value) : Prop := ∃ (x : ByteArray), cs = [.string x] ∧ x.size ≤ reachBytes
theorem rd9 {H : Type} {enc : TypeId × Value → H} {w : World} {base : Nat} {spare : Nat → Bool} {held : Bool} {fuel : Nat} {cs : List Value} {x : DataW H × List MemPlace}
    (h : DataW.trod enc Try.prog w base spare held fuel 9 cs = some x) (hw : Wt Try.prog 9 x.1) : R9 w cs := by
  exact rd_string Try.underlying9 h hw
def R25 (w : World) (cs : List Value) : Prop := ∃ (x0 : Int) (x1 : Int) (x2 : ByteArray), cs = [.int .i64 x0, .int .u64 x1, .string x2] ∧ (Lit.int .i64 x0).wf = true ∧ (Lit.int .u64 x1).wf = true ∧ x2.size ≤ reachBytes
theorem rd25 {H : Type} {enc : TypeId × Value → H} {w : World} {base : Nat} {spare : Nat → Bool} {held : Bool} {fuel : Nat} {cs : List Value} {x : DataW H × List MemPlace}
    (h : DataW.trod enc Try.prog w base spare held fuel 25 cs = some x) (hw : Wt Try.prog 25 x.1) : R25 w cs := by
  obtain ⟨hl, _⟩ := rd_struct Try.underlying25 h hw
  rw [cells25] at hl
  match cs, hl, h with
  | [c0, c1, c2], _, h =>
    obtain ⟨_, gx⟩ := rd_struct Try.underlying25 h hw
    obtain ⟨nx0, yx0, tx0, wx0⟩ := gx 0 _ rfl
    replace tx0 : DataW.trod enc Try.prog w base spare held nx0 3 [c0] = some yx0 := by simpa [cells3] using tx0
    obtain ⟨x0, ex0, fx0⟩ := rd_int Try.underlying3 tx0
    obtain rfl := List.cons.inj ex0 |>.1
    obtain ⟨nx1, yx1, tx1, wx1⟩ := gx 1 _ rfl
    replace tx1 : DataW.trod enc Try.prog w base spare held nx1 23 [c1] = some yx1 := by simpa [cells23] using tx1
    obtain ⟨x1, ex1, fx1⟩ := rd_int Try.underlying23 tx1
    obtain rfl := List.cons.inj ex1 |>.1
    obtain ⟨nx2, yx2, tx2, wx2⟩ := gx 2 _ rfl
    replace tx2 : DataW.trod enc Try.prog w base spare held nx2 9 [c2] = some yx2 := by simpa [cells9] using tx2
    obtain ⟨x2, ex2, fx2⟩ := rd_string Try.underlying9 tx2 wx2
    obtain rfl := List.cons.inj ex2 |>.1
    exact ⟨x0, x1, x2, rfl, fx0, fx1, fx2⟩
end Go.Proofs.Ytkajoepgebfjoaa
