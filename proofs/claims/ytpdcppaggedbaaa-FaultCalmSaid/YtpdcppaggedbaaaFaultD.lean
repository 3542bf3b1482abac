/- Layer 3: the law's 'does': both units take one step; what it answers. -/
import Derived.Test.YtpdcppaggedbaaaFaultW
import Derived.Outline
import Derived.Deep.DeepFit
set_option linter.unusedVariables false
set_option linter.unusedSimpArgs false
namespace Go.Proofs.Ytpdcppaggedbaaa
open Go.RowKit Go.Proofs.YtpdcppaggedbaaaW.PrintWords Go.Proofs.YtpdcppaggedbaaaW.PrintLast Go.Proofs.YtpdcppaggedbaaaW.PrintMore Go.Proofs.Ytpdcppaggedbaaa.PFaultActs

def acts (k n : Int) (h : Bool) (t : Int) : Obj := .cells #[.int .i64 k, .int .i64 n, .bool h, .int .u8 t] 40

/-- Only two blocks have turned. -/
def Kp2 (W W' : World) (a b : Nat) : Prop := W.heap.size ≤ W'.heap.size ∧ ∀ k, k < W.heap.size → k ≠ a → k ≠ b → W'.heap[k]? = W.heap[k]?
theorem Kp2.of {W W1 W2 : World} {o : Obj} {a b : Nat} (h : KeepBut (W.alloc o) W1 a none) (k : KeepBut W1 W2 b none) : Kp2 W W2 a b := by
  obtain ⟨h1, h2⟩ := h
  obtain ⟨k1, k2⟩ := k
  simp only [World.size_alloc] at h1 h2
  refine ⟨by omega, fun i hi ha hb => ?_⟩
  rw [k2 i (by omega) hb (by simp), h2 i (by omega) ha (by simp), Below.heap_alloc W o i hi]
theorem Kp2.of' {W W1 W2 : World} {o : Obj} {a b : Nat} (h : KeepBut (W.alloc o) W1 b none) (k : KeepBut W1 W2 a none) : Kp2 W W2 a b := by
  obtain ⟨h1, h2⟩ := Kp2.of h k
  exact ⟨h1, fun i hi ha hb => h2 i hi hb ha⟩
theorem Kp2.alloc (W : World) (o : Obj) (a b : Nat) : Kp2 W (W.alloc o) a b := ⟨by simp, fun i hi _ _ => Below.heap_alloc W o i hi⟩
theorem PU.keep2 {w0 W W' : World} {g a b : Nat} {x : U} (h : PU w0 W g x) (k : Kp2 W W' a b) (ha : g ≠ a) (hb : g ≠ b) : PU w0 W' g x := by
  have hl := h.lt
  obtain ⟨⟨h1, h2⟩, h3⟩ := h
  exact ⟨⟨(k.2 g hl ha hb).trans h1, h2⟩, h3⟩

section
variable {w0 W : World} {gu gd : Nat} {x y : U} (k n : Int) (h : Bool) (t : Int)

/-- What 'does' leaves. -/
def Done (w0 W W' : World) (gu gd : Nat) (x y : U) (k n : Int) (h : Bool) (e : Ending) : Prop :=
  e = .returned (.bool (agree x y k n)) ∧ PU w0 W' gu (x.does k n h) ∧ PD w0 W' gd (y.does k n h) ∧ Below w0.heap.size w0 W' ∧ Kp2 W W' gu gd

theorem does_0 (hu : PU w0 W gu x) (hd : PD w0 W gd y) (hB : Below w0.heap.size w0 W) :
    Calls Try.prog 15 #[.pointer (some ⟨gu, 0, none⟩), .pointer (some ⟨gd, 0, none⟩), .agg #[.int .i64 0, .int .i64 n, .bool h, .int .u8 t]] W fun e W' => Done w0 W W' gu gd x y 0 n h e := by
  have hne := hu.ne hd
  go_enter Try.func15, Try.ntmps15
  go_wp2_with (first
    | (go_at_call 11; refine (cSent (hu.alloc _) (hB.alloc hB.size _)).mono ?_; rintro e W1 ⟨rfl, hu1, hB1, hk1⟩)
    | (go_at_call 21; refine (eSent ((hd.alloc _).keep hk1 hne.symm) hB1).mono ?_; rintro e W2 ⟨rfl, hd2, hB2, hk2⟩))
  go_ret
  exact ⟨rfl, hu1.keep hk2 hne, hd2, hB2, Kp2.of hk1 hk2⟩
theorem does_1 (hu : PU w0 W gu x) (hd : PD w0 W gd y) (hB : Below w0.heap.size w0 W) :
    Calls Try.prog 15 #[.pointer (some ⟨gu, 0, none⟩), .pointer (some ⟨gd, 0, none⟩), .agg #[.int .i64 1, .int .i64 n, .bool h, .int .u8 t]] W fun e W' => Done w0 W W' gu gd x y 1 n h e := by
  have hne := hu.ne hd
  go_enter Try.func15, Try.ntmps15
  go_wp2_with (first
    | (go_at_call 22; refine (cReceived (hu.alloc _) (hB.alloc hB.size _)).mono ?_; rintro e W1 ⟨rfl, hu1, hB1, hk1⟩)
    | (go_at_call 23; refine (eReceived ((hd.alloc _).keep hk1 hne.symm) hB1).mono ?_; rintro e W2 ⟨rfl, hd2, hB2, hk2⟩))
  go_ret
  exact ⟨rfl, hu1.keep hk2 hne, hd2, hB2, Kp2.of hk1 hk2⟩
theorem does_5 (hu : PU w0 W gu x) (hd : PD w0 W gd y) (hB : Below w0.heap.size w0 W) :
    Calls Try.prog 15 #[.pointer (some ⟨gu, 0, none⟩), .pointer (some ⟨gd, 0, none⟩), .agg #[.int .i64 5, .int .i64 n, .bool h, .int .u8 t]] W fun e W' => Done w0 W W' gu gd x y 5 n h e := by
  have hne := hu.ne hd
  go_enter Try.func15, Try.ntmps15
  go_wp2_with (first
    | (go_at_call 19; refine (cReset (hu.alloc _) (hB.alloc hB.size _)).mono ?_; rintro e W1 ⟨rfl, hu1, hB1, hk1⟩)
    | (go_at_call 28; refine (eReset ((hd.alloc _).keep hk1 hne.symm) hB1).mono ?_; rintro e W2 ⟨rfl, hd2, hB2, hk2⟩))
  go_ret
  exact ⟨rfl, hu1.keep hk2 hne, hd2, hB2, Kp2.of hk1 hk2⟩
theorem does_2 (hu : PU w0 W gu x) (hd : PD w0 W gd y) (hB : Below w0.heap.size w0 W) :
    Calls Try.prog 15 #[.pointer (some ⟨gu, 0, none⟩), .pointer (some ⟨gd, 0, none⟩), .agg #[.int .i64 2, .int .i64 n, .bool h, .int .u8 t]] W fun e W' => Done w0 W W' gu gd x y 2 n h e := by
  have hne := hu.ne hd
  have hlu := Nat.ne_of_gt hu.lt
  go_enter Try.func15, Try.ntmps15
  go_wp2_with (first
    | (go_at_call 9; refine (cFailed h (hu.alloc _) (hB.alloc hB.size _)).mono ?_; rintro e W1 ⟨rfl, hu1, hB1, hk1⟩; have hc1 : W1.cell? ⟨W.heap.size, 2, none⟩ = some (.bool h) := keep_cell hk1 (World.cell?_alloc_new W _ _ 2) hlu)
    | (go_at_call 24; refine (eFailed h ((hd.alloc _).keep hk1 hne.symm) hB1).mono ?_; rintro e W2 ⟨rfl, hd2, hB2, hk2⟩))
  go_ret
  exact ⟨rfl, hu1.keep hk2 hne, hd2, hB2, Kp2.of hk1 hk2⟩
theorem does_3 (hu : PU w0 W gu x) (hd : PD w0 W gd y) (hB : Below w0.heap.size w0 W) :
    Calls Try.prog 15 #[.pointer (some ⟨gu, 0, none⟩), .pointer (some ⟨gd, 0, none⟩), .agg #[.int .i64 3, .int .i64 n, .bool h, .int .u8 t]] W fun e W' => Done w0 W W' gu gd x y 3 n h e := by
  have hne := hu.ne hd
  have hlu := Nat.ne_of_gt hu.lt
  go_enter Try.func15, Try.ntmps15
  go_wp2_with (first
    | (go_at_call 25; refine (cErred h (hu.alloc _) (hB.alloc hB.size _)).mono ?_; rintro e W1 ⟨rfl, hu1, hB1, hk1⟩; have hc1 : W1.cell? ⟨W.heap.size, 2, none⟩ = some (.bool h) := keep_cell hk1 (World.cell?_alloc_new W _ _ 2) hlu)
    | (go_at_call 26; refine (eErred h ((hd.alloc _).keep hk1 hne.symm) hB1).mono ?_; rintro e W2 ⟨rfl, hd2, hB2, hk2⟩))
  go_ret
  exact ⟨rfl, hu1.keep hk2 hne, hd2, hB2, Kp2.of hk1 hk2⟩
theorem does_6 (h0 : ¬ k = 0) (h1 : ¬ k = 1) (h2 : ¬ k = 2) (h3 : ¬ k = 3) (h4 : ¬ k = 4) (h5 : ¬ k = 5) (hu : PU w0 W gu x) (hd : PD w0 W gd y) (hB : Below w0.heap.size w0 W) :
    Calls Try.prog 15 #[.pointer (some ⟨gu, 0, none⟩), .pointer (some ⟨gd, 0, none⟩), .agg #[.int .i64 k, .int .i64 n, .bool h, .int .u8 t]] W fun e W' => Done w0 W W' gu gd x y k n h e := by
  have e1 : agree x y k n = true := by simp [agree, h4]
  have e2 : ∀ z : U, z.does k n h = z := fun z => by simp [U.does, h0, h1, h2, h3, h4, h5]
  have E1 := Lib.hid e1
  have E2 := Lib.hid e2
  clear e1 e2
  go_enter Try.func15, Try.ntmps15
  go_wp2
  go_ret
  unfold Done
  rw [E1.out, E2.out, E2.out]
  exact ⟨rfl, hu.alloc _, hd.alloc _, hB.alloc hB.size _, Kp2.alloc _ _ _ _⟩
end
end Go.Proofs.Ytpdcppaggedbaaa
