/- Layer 3: each printed function of the unit is one step of the plain machine of four fields. -/
import Derived.Test.YtpdcppaggedbaaaPFaultActsx
import Derived.Test.YtpdcppaggedbaaaFaultU
namespace Go.Proofs.Ytpdcppaggedbaaa
open Go.RowKit Go.Proofs.YtpdcppaggedbaaaW.PrintWords Go.Proofs.YtpdcppaggedbaaaW.PrintLast Go.Proofs.YtpdcppaggedbaaaW.PrintMore Go.Proofs.Ytpdcppaggedbaaa.PFaultActs

theorem w64 {n : Int} (h : -9223372036854775808 ≤ n) (h' : n ≤ 9223372036854775807) : wrap64 n = n := by unfold wrap64; omega

/-- The four fields as one tuple. -/
def U.tup (x : U) : Int × Int × Bool × Int := (x.s, x.r, x.o, x.i)

theorem U.Ok.ok_mk {s r : Int} {o : Bool} {i : Int} (h : U.Ok ⟨s, r, o, i⟩) : 0 ≤ s ∧ s ≤ 256 ∧ 0 ≤ r ∧ r ≤ 255 ∧ 0 ≤ i ∧ i ≤ 127 := ⟨h.s0, h.s1, h.r0, h.r1, h.i0, h.i1⟩
variable {x : U}
theorem p_state (hx : x.Ok) : fault_Unit_state.f x.s x.r x.o x.i = some (x.state, x.tup) := by
  obtain ⟨s, r, o, i⟩ := x
  obtain ⟨s0, s1, r0, r1, i0, i1⟩ := hx.ok_mk
  cases o <;> simp [fault_Unit_state.f, U.state, U.tup, mx]
  repeat' split
  all_goals first | rfl | (exfalso; omega)
theorem p_State (hx : x.Ok) : fault_Unit_State.f x.s x.r x.o x.i = some (x.state, x.tup) := by
  unfold fault_Unit_State.f; rw [p_state hx]; rfl
theorem p_Warns (hx : x.Ok) : fault_Unit_Warns.f x.s x.r x.o x.i = some (x.warns, x.tup) := by
  obtain ⟨s, r, o, i⟩ := x
  obtain ⟨s0, s1, r0, r1, i0, i1⟩ := hx.ok_mk
  cases o <;> simp [fault_Unit_Warns.f, U.warns, U.tup, mx]
  rw [Bool.eq_iff_iff]; simp
  split <;> omega
theorem p_Sent (hx : x.Ok) : fault_Unit_Sent.f x.s x.r x.o x.i = some x.sent.tup := by
  obtain ⟨s, r, o, i⟩ := x
  obtain ⟨s0, s1, r0, r1, i0, i1⟩ := hx.ok_mk
  have W : wrap64 (s - 1) = s - 1 := w64 (by omega) (by omega)
  cases o <;> simp [fault_Unit_Sent.f, U.sent, U.tup, mx, W]
  split <;> split <;> omega
theorem p_Received (hx : x.Ok) : fault_Unit_Received.f x.s x.r x.o x.i = some x.received.tup := by
  obtain ⟨s, r, o, i⟩ := x
  obtain ⟨s0, s1, r0, r1, i0, i1⟩ := hx.ok_mk
  have W : wrap64 (r - 1) = r - 1 := w64 (by omega) (by omega)
  cases o <;> simp [fault_Unit_Received.f, U.received, U.tup, mx, W]
  repeat' split
  all_goals (simp; try omega)
theorem p_Failed (hx : x.Ok) (q : Bool) : fault_Unit_Failed.f 1 x.s x.r x.o x.i q = some (x.failed q).tup := by
  obtain ⟨s, r, o, i⟩ := x
  obtain ⟨s0, s1, r0, r1, i0, i1⟩ := hx.ok_mk
  have W : wrap64 (s + 8) = s + 8 := w64 (by omega) (by omega)
  have hs := p_state hx
  simp only [U.tup] at hs
  cases o <;> cases q <;> simp [fault_Unit_Failed.f, fault_Unit_Failed.j0, U.failed, U.tup, U.state, W, hs]
  all_goals (repeat' split)
  all_goals first | rfl | (simp; done) | (exfalso; omega) | simp_all
theorem p_Erred (hx : x.Ok) (l : Bool) : fault_Unit_Erred.f x.s x.r x.o x.i l = some (x.erred l).tup := by
  obtain ⟨s, r, o, i⟩ := x
  obtain ⟨s0, s1, r0, r1, i0, i1⟩ := hx.ok_mk
  have W : wrap64 (r + 8) = r + 8 := w64 (by omega) (by omega)
  have W' : wrap64 (r + 1) = r + 1 := w64 (by omega) (by omega)
  cases o <;> cases l <;> simp [fault_Unit_Erred.f, U.erred, U.tup, mn, W, W']
  all_goals (split <;> split <;> omega)
theorem p_Reset : fault_Unit_Reset.f x.s x.r x.o x.i = some U.zero.tup := rfl
theorem p_Idle (hx : x.Ok) (n : Int) : fault_Unit_Idle.f x.s x.r x.o x.i n = some (x.back n, (x.idle n).tup) := by
  obtain ⟨s, r, o, i⟩ := x
  obtain ⟨s0, s1, r0, r1, i0, i1⟩ := hx.ok_mk
  have hb := idles_bd n
  have hm : mn (mx n 0) 128 = idles n := by
    unfold mn mx idles
    repeat' split
    all_goals omega
  have W : wrap64 (i + idles n) = i + idles n := w64 (by omega) (by omega)
  cases o <;> simp [fault_Unit_Idle.f, U.idle, U.back, U.tup, hm, W]
  split <;> simp [U.zero] <;> omega
theorem d_State (hx : x.Ok) : tramwayref03_Unit_State.f x.s x.r x.o x.i = some (x.state, x.tup) := by
  obtain ⟨s, r, o, i⟩ := x
  obtain ⟨s0, s1, r0, r1, i0, i1⟩ := hx.ok_mk
  cases o <;> simp [tramwayref03_Unit_State.f, U.state, U.tup]
  repeat' split
  all_goals first | rfl | (exfalso; omega)
theorem d_Warns (hx : x.Ok) : tramwayref03_Unit_Warns.f x.s x.r x.o x.i = some (x.warns, x.tup) := by
  obtain ⟨s, r, o, i⟩ := x
  obtain ⟨s0, s1, r0, r1, i0, i1⟩ := hx.ok_mk
  cases o <;> simp [tramwayref03_Unit_Warns.f, U.warns, U.tup]
  split <;> simp <;> omega
theorem d_Sent (hx : x.Ok) : tramwayref03_Unit_Sent.f x.s x.r x.o x.i = some x.sent.tup := by
  obtain ⟨s, r, o, i⟩ := x
  obtain ⟨s0, s1, r0, r1, i0, i1⟩ := hx.ok_mk
  have W : wrap64 (s - 1) = s - 1 := w64 (by omega) (by omega)
  cases o <;> simp [tramwayref03_Unit_Sent.f, U.sent, U.tup, W]
  split <;> simp <;> omega
theorem d_Received (hx : x.Ok) : tramwayref03_Unit_Received.f x.s x.r x.o x.i = some x.received.tup := by
  obtain ⟨s, r, o, i⟩ := x
  obtain ⟨s0, s1, r0, r1, i0, i1⟩ := hx.ok_mk
  have W : wrap64 (r - 1) = r - 1 := w64 (by omega) (by omega)
  cases o <;> simp [tramwayref03_Unit_Received.f, U.received, U.tup, W]
  repeat' split
  all_goals (simp; try omega)
theorem d_Failed (hx : x.Ok) (q : Bool) : tramwayref03_Unit_Failed.f 1 x.s x.r x.o x.i q = some (x.failed q).tup := by
  obtain ⟨s, r, o, i⟩ := x
  obtain ⟨s0, s1, r0, r1, i0, i1⟩ := hx.ok_mk
  have W : wrap64 (s + 8) = s + 8 := w64 (by omega) (by omega)
  have hs := d_State hx
  simp only [U.tup] at hs
  cases o <;> cases q <;> simp [tramwayref03_Unit_Failed.f, tramwayref03_Unit_Failed.j0, U.failed, U.tup, U.state, W, hs]
  all_goals (repeat' split)
  all_goals first | rfl | (simp; done) | (exfalso; omega) | simp_all
theorem d_Erred (hx : x.Ok) (l : Bool) : tramwayref03_Unit_Erred.f x.s x.r x.o x.i l = some (x.erred l).tup := by
  obtain ⟨s, r, o, i⟩ := x
  obtain ⟨s0, s1, r0, r1, i0, i1⟩ := hx.ok_mk
  have W : wrap64 (r + 1) = r + 1 := w64 (by omega) (by omega)
  have W' : wrap64 (r + 1 + 7) = r + 8 := by rw [w64 (by omega) (by omega)]; omega
  cases o <;> cases l <;> simp [tramwayref03_Unit_Erred.f, U.erred, U.tup, W, W']
  all_goals (split <;> simp)
theorem d_Reset : tramwayref03_Unit_Reset.f x.s x.r x.o x.i = some U.zero.tup := rfl
theorem d_Idle (hx : x.Ok) (n : Int) : tramwayref03_Unit_Idle.f 1 x.s x.r x.o x.i n = some (x.back n, (x.idle n).tup) := by
  obtain ⟨s, r, o, i⟩ := x
  obtain ⟨s0, s1, r0, r1, i0, i1⟩ := hx.ok_mk
  by_cases h1 : n < 1
  · cases o <;> simp [tramwayref03_Unit_Idle.f, tramwayref03_Unit_Idle.j0, U.idle, U.back, U.tup, idles, h1, show i < 128 by omega]
  · by_cases h2 : n > 128
    · have W : wrap64 (i + 128) = i + 128 := w64 (by omega) (by omega)
      cases o <;> simp [tramwayref03_Unit_Idle.f, tramwayref03_Unit_Idle.j0, tramwayref03_Unit_Reset.f, U.idle, U.back, U.tup, idles, U.zero, h1, h2, W]
      split <;> simp <;> omega
    · have W : wrap64 (i + n) = i + n := w64 (by omega) (by omega)
      cases o <;> simp [tramwayref03_Unit_Idle.f, tramwayref03_Unit_Idle.j0, tramwayref03_Unit_Reset.f, U.idle, U.back, U.tup, idles, U.zero, h1, h2, W]
      split <;> simp <;> omega

end Go.Proofs.Ytpdcppaggedbaaa
