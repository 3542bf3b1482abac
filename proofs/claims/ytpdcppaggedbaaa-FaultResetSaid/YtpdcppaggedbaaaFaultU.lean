/- Layer 3: each method of the unit, of the program and of the reference, does one step of a plain machine of four fields. -/
import Derived.Test.YtpdcppaggedbaaaFr
import Derived.Test.YtpdcppaggedbaaaRows
import Derived.Deep.QuietTactic
import Derived.BigQuiet
import Derived.RegionTactic
import Derived.BigRegion
import Derived.Lib.Hide
namespace Go.Proofs.Ytpdcppaggedbaaa
open Go.RowKit

/-- The four fields: errors of sending, of receiving, off the bus, idle rows. -/
structure U where
  s : Int
  r : Int
  o : Bool
  i : Int

def U.cells (x : U) : List Value := [.int .i64 x.s, .int .i64 x.r, .bool x.o, .int .i64 x.i]
def U.zero : U := ⟨0, 0, false, 0⟩

/-- What always holds. -/
structure U.Ok (x : U) : Prop where
  s0 : 0 ≤ x.s
  s1 : x.s ≤ 256
  r0 : 0 ≤ x.r
  r1 : x.r ≤ 255
  i0 : 0 ≤ x.i
  i1 : x.i ≤ 127
  on : x.o = false → x.s ≤ 255

def U.state (x : U) : Int := if x.o then 2 else if x.s > 127 ∨ x.r > 127 then 1 else 0
def U.warns (x : U) : Bool := x.o || decide (x.s > 95 ∨ x.r > 95)
def U.sent (x : U) : U := if x.o then x else { x with s := if x.s > 0 then x.s - 1 else 0 }
def U.received (x : U) : U := if x.o then x else { x with r := if x.r > 127 then 120 else if x.r > 0 then x.r - 1 else 0 }
def U.failed (x : U) (q : Bool) : U :=
  if x.o then x else if q = true ∧ (x.s > 127 ∨ x.r > 127) then x else
  if x.s + 8 > 255 then { x with o := true, s := 256, i := 0 } else { x with s := x.s + 8 }
def U.erred (x : U) (l : Bool) : U :=
  if x.o then x else { x with r := if x.r + (if l then 8 else 1) > 255 then 255 else x.r + (if l then 8 else 1) }
/-- How many idle rows are counted. -/
def idles (n : Int) : Int := if n < 1 then 0 else if n > 128 then 128 else n
def U.idle (x : U) (n : Int) : U := if x.o then (if x.i + idles n < 128 then { x with i := x.i + idles n } else U.zero) else x
def U.back (x : U) (n : Int) : Bool := x.o && decide (¬ x.i + idles n < 128)

theorem idles_bd (n : Int) : 0 ≤ idles n ∧ idles n ≤ 128 := by unfold idles; split <;> (try split) <;> omega
theorem U.zero_ok : U.zero.Ok := ⟨by decide, by decide, by decide, by decide, by decide, by decide, fun _ => by decide⟩

theorem U.sent_ok {x : U} (h : x.Ok) : x.sent.Ok := by
  obtain ⟨s0, s1, r0, r1, i0, i1, on⟩ := h
  unfold U.sent
  cases ho : x.o <;> simp
  · have := on ho
    exact ⟨by simp; split <;> omega, by simp; split <;> omega, r0, r1, i0, i1, fun _ => by simp; split <;> omega⟩
  · exact ⟨s0, s1, r0, r1, i0, i1, on⟩
theorem U.received_ok {x : U} (h : x.Ok) : x.received.Ok := by
  obtain ⟨s0, s1, r0, r1, i0, i1, on⟩ := h
  unfold U.received
  cases ho : x.o <;> simp
  · exact ⟨s0, s1, by simp; split <;> (try split) <;> omega, by simp; split <;> (try split) <;> omega, i0, i1, fun _ => on ho⟩
  · exact ⟨s0, s1, r0, r1, i0, i1, on⟩
theorem U.failed_ok {x : U} (h : x.Ok) (q : Bool) : (x.failed q).Ok := by
  obtain ⟨s0, s1, r0, r1, i0, i1, on⟩ := h
  unfold U.failed
  cases ho : x.o <;> simp
  · have := on ho
    split
    · exact ⟨s0, s1, r0, r1, i0, i1, on⟩
    · split
      · exact ⟨by simp, by simp, r0, r1, by simp, by simp, by simp⟩
      · exact ⟨by simp; omega, by simp; omega, r0, r1, i0, i1, fun _ => by simp; omega⟩
  · exact ⟨s0, s1, r0, r1, i0, i1, on⟩
theorem U.erred_ok {x : U} (h : x.Ok) (l : Bool) : (x.erred l).Ok := by
  obtain ⟨s0, s1, r0, r1, i0, i1, on⟩ := h
  unfold U.erred
  cases ho : x.o <;> simp
  · cases l <;> simp <;> exact ⟨s0, s1, by simp; split <;> omega, by simp; split <;> omega, i0, i1, fun _ => on ho⟩
  · exact ⟨s0, s1, r0, r1, i0, i1, on⟩
theorem U.idle_ok {x : U} (h : x.Ok) (n : Int) : (x.idle n).Ok := by
  have hb := idles_bd n
  obtain ⟨s0, s1, r0, r1, i0, i1, on⟩ := h
  unfold U.idle
  split
  · split
    · exact ⟨s0, s1, r0, r1, by simp; omega, by simp; omega, on⟩
    · exact U.zero_ok
  · exact ⟨s0, s1, r0, r1, i0, i1, on⟩

end Go.Proofs.Ytpdcppaggedbaaa
