/- Layer 3: the contracts of the unit's methods, over the plain machine; and of the law's own 'does'. -/
import Derived.Test.YtpdcppaggedbaaaFaultU2
import Derived.Test.YtpdcppaggedbaaaRows
import Derived.Deep.RegionWith
import Derived.Handy
namespace Go.Proofs.Ytpdcppaggedbaaa
open Go.RowKit Go.Proofs.YtpdcppaggedbaaaW.PrintWords Go.Proofs.YtpdcppaggedbaaaW.PrintLast Go.Proofs.YtpdcppaggedbaaaW.PrintMore Go.Proofs.Ytpdcppaggedbaaa.PFaultActs

def PU (w0 W : World) (g : Nat) (x : U) : Prop := IsS44 w0 W g x.s x.r x.o x.i ∧ x.Ok
def PD (w0 W : World) (g : Nat) (x : U) : Prop := IsS38 w0 W g x.s x.r x.o x.i ∧ x.Ok

section
variable {w0 W W' : World} {g g' : Nat} {x y : U}
theorem PU.keep (h : PU w0 W g x) (k : KeepBut W W' g' none) (hn : g ≠ g') : PU w0 W' g x := by
  obtain ⟨⟨h1, h2⟩, h3⟩ := h
  exact ⟨⟨k.blk h1 hn (by simp), h2⟩, h3⟩
theorem PD.keep (h : PD w0 W g x) (k : KeepBut W W' g' none) (hn : g ≠ g') : PD w0 W' g x := by
  obtain ⟨⟨h1, h2⟩, h3⟩ := h
  exact ⟨⟨k.blk h1 hn (by simp), h2⟩, h3⟩
theorem PU.below (h : PU w0 W g x) (k : Below W.heap.size W W') : PU w0 W' g x := ⟨h.1.below k, h.2⟩
theorem PD.below (h : PD w0 W g x) (k : Below W.heap.size W W') : PD w0 W' g x := ⟨h.1.below k, h.2⟩
theorem PU.alloc (h : PU w0 W g x) (o : Obj) : PU w0 (W.alloc o) g x := ⟨h.1.alloc o, h.2⟩
theorem PD.alloc (h : PD w0 W g x) (o : Obj) : PD w0 (W.alloc o) g x := ⟨h.1.alloc o, h.2⟩
theorem PU.drew (h : PU w0 W g x) : PU w0 W.drew g x := h
theorem PD.drew (h : PD w0 W g x) : PD w0 W.drew g x := h
theorem PU.lt (h : PU w0 W g x) : g < W.heap.size := h.1.lt
theorem PD.lt (h : PD w0 W g x) : g < W.heap.size := h.1.lt
theorem PU.ne (h : PU w0 W g x) (k : PD w0 W g' y) : g ≠ g' := by
  rintro rfl
  have h1 := h.1.1
  rw [k.1.1] at h1
  injection h1 with h1
  injection h1 with _ h1
  exact absurd h1 (by decide)
theorem below_tr {B : Nat} {a b c : World} (h : Below B a b) (k : Below B b c) : Below B a c := h.trans k

theorem cNew (w0 W : World) (hB : Below w0.heap.size w0 W) : Calls Try.prog 8 #[] W fun e W' => ∃ g : Nat, e = .returned (.pointer (some ⟨g, 0, none⟩)) ∧ PU w0 W' g U.zero ∧ Below w0.heap.size w0 W' ∧ Below W.heap.size W W' ∧ W.heap.size ≤ g :=
  (fault_New.calls 0 0 false 0 W W (Below.refl _ _) rfl).mono fun _ _ ⟨g, he, h1, h2, h3⟩ => ⟨g, he, ⟨⟨h1.1, Nat.le_trans hB.size h1.2⟩, U.zero_ok⟩, hB.trans (h3.mono hB.size), h3, h1.2⟩
theorem cState (h : PU w0 W g x) (hB : Below w0.heap.size w0 W) : Calls Try.prog 10 #[.pointer (some ⟨g, 0, none⟩)] W fun e W' => e = .returned (.int .i64 x.state) ∧ PU w0 W' g x ∧ Below w0.heap.size w0 W' ∧ KeepBut W W' g none :=
  (fault_Unit_State.calls g _ _ _ _ _ _ _ _ _ w0 W h.1 hB (p_State h.2)).mono fun _ _ ⟨he, h1, h2, h3⟩ => ⟨he, ⟨h1, h.2⟩, h2, h3⟩
theorem cCounts (h : PU w0 W g x) (hB : Below w0.heap.size w0 W) : Calls Try.prog 12 #[.pointer (some ⟨g, 0, none⟩)] W fun e W' => e = .returned (.tuple #[.int .i64 x.s, .int .i64 x.r]) ∧ PU w0 W' g x ∧ Below w0.heap.size w0 W' ∧ KeepBut W W' g none :=
  (fault_Unit_Counts.calls g _ _ _ _ _ _ _ _ _ _ w0 W h.1 hB rfl).mono fun _ _ ⟨he, h1, h2, h3⟩ => ⟨he, ⟨h1, h.2⟩, h2, h3⟩
theorem cWarns (h : PU w0 W g x) (hB : Below w0.heap.size w0 W) : Calls Try.prog 17 #[.pointer (some ⟨g, 0, none⟩)] W fun e W' => e = .returned (.bool x.warns) ∧ PU w0 W' g x ∧ Below w0.heap.size w0 W' ∧ KeepBut W W' g none :=
  (fault_Unit_Warns.calls g _ _ _ _ _ _ _ _ _ w0 W h.1 hB (p_Warns h.2)).mono fun _ _ ⟨he, h1, h2, h3⟩ => ⟨he, ⟨h1, h.2⟩, h2, h3⟩
theorem cSent (h : PU w0 W g x) (hB : Below w0.heap.size w0 W) : Calls Try.prog 11 #[.pointer (some ⟨g, 0, none⟩)] W fun e W' => e = .returned (.tuple #[]) ∧ PU w0 W' g x.sent ∧ Below w0.heap.size w0 W' ∧ KeepBut W W' g none :=
  (fault_Unit_Sent.calls g _ _ _ _ _ _ _ _ w0 W h.1 hB (p_Sent h.2)).mono fun _ _ ⟨he, h1, h2, h3⟩ => ⟨he, ⟨h1, U.sent_ok h.2⟩, h2, h3⟩
theorem cReceived (h : PU w0 W g x) (hB : Below w0.heap.size w0 W) : Calls Try.prog 22 #[.pointer (some ⟨g, 0, none⟩)] W fun e W' => e = .returned (.tuple #[]) ∧ PU w0 W' g x.received ∧ Below w0.heap.size w0 W' ∧ KeepBut W W' g none :=
  (fault_Unit_Received.calls g _ _ _ _ _ _ _ _ w0 W h.1 hB (p_Received h.2)).mono fun _ _ ⟨he, h1, h2, h3⟩ => ⟨he, ⟨h1, U.received_ok h.2⟩, h2, h3⟩
theorem cFailed (q : Bool) (h : PU w0 W g x) (hB : Below w0.heap.size w0 W) : Calls Try.prog 9 #[.pointer (some ⟨g, 0, none⟩), .bool q] W fun e W' => e = .returned (.tuple #[]) ∧ PU w0 W' g (x.failed q) ∧ Below w0.heap.size w0 W' ∧ KeepBut W W' g none :=
  (fault_Unit_Failed.calls 1 g _ _ _ _ q _ _ _ _ w0 W h.1 hB (p_Failed h.2 q)).mono fun _ _ ⟨he, h1, h2, h3⟩ => ⟨he, ⟨h1, U.failed_ok h.2 q⟩, h2, h3⟩
theorem cErred (q : Bool) (h : PU w0 W g x) (hB : Below w0.heap.size w0 W) : Calls Try.prog 25 #[.pointer (some ⟨g, 0, none⟩), .bool q] W fun e W' => e = .returned (.tuple #[]) ∧ PU w0 W' g (x.erred q) ∧ Below w0.heap.size w0 W' ∧ KeepBut W W' g none :=
  (fault_Unit_Erred.calls g _ _ _ _ q _ _ _ _ w0 W h.1 hB (p_Erred h.2 q)).mono fun _ _ ⟨he, h1, h2, h3⟩ => ⟨he, ⟨h1, U.erred_ok h.2 q⟩, h2, h3⟩
theorem cIdle (n : Int) (h : PU w0 W g x) (hB : Below w0.heap.size w0 W) : Calls Try.prog 14 #[.pointer (some ⟨g, 0, none⟩), .int .i64 n] W fun e W' => e = .returned (.bool (x.back n)) ∧ PU w0 W' g (x.idle n) ∧ Below w0.heap.size w0 W' ∧ KeepBut W W' g none :=
  (fault_Unit_Idle.calls g _ _ _ _ n _ _ _ _ _ w0 W h.1 hB (p_Idle h.2 n)).mono fun _ _ ⟨he, h1, h2, h3⟩ => ⟨he, ⟨h1, U.idle_ok h.2 n⟩, h2, h3⟩
theorem cReset (h : PU w0 W g x) (hB : Below w0.heap.size w0 W) : Calls Try.prog 19 #[.pointer (some ⟨g, 0, none⟩)] W fun e W' => e = .returned (.tuple #[]) ∧ PU w0 W' g U.zero ∧ Below w0.heap.size w0 W' ∧ KeepBut W W' g none :=
  (fault_Unit_Reset.calls g _ _ _ _ _ _ _ _ w0 W h.1 hB p_Reset).mono fun _ _ ⟨he, h1, h2, h3⟩ => ⟨he, ⟨h1, U.zero_ok⟩, h2, h3⟩

theorem eState (h : PD w0 W g x) (hB : Below w0.heap.size w0 W) : Calls Try.prog 16 #[.pointer (some ⟨g, 0, none⟩)] W fun e W' => e = .returned (.int .i64 x.state) ∧ PD w0 W' g x ∧ Below w0.heap.size w0 W' ∧ KeepBut W W' g none :=
  (tramwayref03_Unit_State.calls g _ _ _ _ _ _ _ _ _ w0 W h.1 hB (d_State h.2)).mono fun _ _ ⟨he, h1, h2, h3⟩ => ⟨he, ⟨h1, h.2⟩, h2, h3⟩
theorem eWarns (h : PD w0 W g x) (hB : Below w0.heap.size w0 W) : Calls Try.prog 18 #[.pointer (some ⟨g, 0, none⟩)] W fun e W' => e = .returned (.bool x.warns) ∧ PD w0 W' g x ∧ Below w0.heap.size w0 W' ∧ KeepBut W W' g none :=
  (tramwayref03_Unit_Warns.calls g _ _ _ _ _ _ _ _ _ w0 W h.1 hB (d_Warns h.2)).mono fun _ _ ⟨he, h1, h2, h3⟩ => ⟨he, ⟨h1, h.2⟩, h2, h3⟩
theorem eSent (h : PD w0 W g x) (hB : Below w0.heap.size w0 W) : Calls Try.prog 21 #[.pointer (some ⟨g, 0, none⟩)] W fun e W' => e = .returned (.tuple #[]) ∧ PD w0 W' g x.sent ∧ Below w0.heap.size w0 W' ∧ KeepBut W W' g none :=
  (tramwayref03_Unit_Sent.calls g _ _ _ _ _ _ _ _ w0 W h.1 hB (d_Sent h.2)).mono fun _ _ ⟨he, h1, h2, h3⟩ => ⟨he, ⟨h1, U.sent_ok h.2⟩, h2, h3⟩
theorem eReceived (h : PD w0 W g x) (hB : Below w0.heap.size w0 W) : Calls Try.prog 23 #[.pointer (some ⟨g, 0, none⟩)] W fun e W' => e = .returned (.tuple #[]) ∧ PD w0 W' g x.received ∧ Below w0.heap.size w0 W' ∧ KeepBut W W' g none :=
  (tramwayref03_Unit_Received.calls g _ _ _ _ _ _ _ _ w0 W h.1 hB (d_Received h.2)).mono fun _ _ ⟨he, h1, h2, h3⟩ => ⟨he, ⟨h1, U.received_ok h.2⟩, h2, h3⟩
theorem eFailed (q : Bool) (h : PD w0 W g x) (hB : Below w0.heap.size w0 W) : Calls Try.prog 24 #[.pointer (some ⟨g, 0, none⟩), .bool q] W fun e W' => e = .returned (.tuple #[]) ∧ PD w0 W' g (x.failed q) ∧ Below w0.heap.size w0 W' ∧ KeepBut W W' g none :=
  (tramwayref03_Unit_Failed.calls 1 g _ _ _ _ q _ _ _ _ w0 W h.1 hB (d_Failed h.2 q)).mono fun _ _ ⟨he, h1, h2, h3⟩ => ⟨he, ⟨h1, U.failed_ok h.2 q⟩, h2, h3⟩
theorem eErred (q : Bool) (h : PD w0 W g x) (hB : Below w0.heap.size w0 W) : Calls Try.prog 26 #[.pointer (some ⟨g, 0, none⟩), .bool q] W fun e W' => e = .returned (.tuple #[]) ∧ PD w0 W' g (x.erred q) ∧ Below w0.heap.size w0 W' ∧ KeepBut W W' g none :=
  (tramwayref03_Unit_Erred.calls g _ _ _ _ q _ _ _ _ w0 W h.1 hB (d_Erred h.2 q)).mono fun _ _ ⟨he, h1, h2, h3⟩ => ⟨he, ⟨h1, U.erred_ok h.2 q⟩, h2, h3⟩
theorem eIdle (n : Int) (h : PD w0 W g x) (hB : Below w0.heap.size w0 W) : Calls Try.prog 27 #[.pointer (some ⟨g, 0, none⟩), .int .i64 n] W fun e W' => e = .returned (.bool (x.back n)) ∧ PD w0 W' g (x.idle n) ∧ Below w0.heap.size w0 W' ∧ KeepBut W W' g none :=
  (tramwayref03_Unit_Idle.calls 1 g _ _ _ _ n _ _ _ _ _ w0 W h.1 hB (d_Idle h.2 n)).mono fun _ _ ⟨he, h1, h2, h3⟩ => ⟨he, ⟨h1, U.idle_ok h.2 n⟩, h2, h3⟩
theorem eReset (h : PD w0 W g x) (hB : Below w0.heap.size w0 W) : Calls Try.prog 28 #[.pointer (some ⟨g, 0, none⟩)] W fun e W' => e = .returned (.tuple #[]) ∧ PD w0 W' g U.zero ∧ Below w0.heap.size w0 W' ∧ KeepBut W W' g none :=
  (tramwayref03_Unit_Reset.calls g _ _ _ _ _ _ _ _ w0 W h.1 hB d_Reset).mono fun _ _ ⟨he, h1, h2, h3⟩ => ⟨he, ⟨h1, U.zero_ok⟩, h2, h3⟩
end

/-- What a law's act does to a unit. -/
def U.does (x : U) (k n : Int) (h : Bool) : U :=
  if k = 0 then x.sent else if k = 1 then x.received else if k = 2 then x.failed h else if k = 3 then x.erred h else if k = 4 then x.idle n else if k = 5 then U.zero else x
theorem U.does_ok {x : U} (hx : x.Ok) (k n : Int) (h : Bool) : (x.does k n h).Ok := by
  unfold U.does
  repeat' split
  · exact U.sent_ok hx
  · exact U.received_ok hx
  · exact U.failed_ok hx h
  · exact U.erred_ok hx h
  · exact U.idle_ok hx n
  · exact U.zero_ok
  · exact hx

/-- What 'does' answers, of two units. -/
def agree (x y : U) (k n : Int) : Bool := if k = 4 then x.back n == y.back n else true

end Go.Proofs.Ytpdcppaggedbaaa
