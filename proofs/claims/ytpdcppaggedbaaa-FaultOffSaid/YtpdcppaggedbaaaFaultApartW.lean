/- Layer 3: FaultApart's walk. -/
import Derived.Test.YtpdcppaggedbaaaFaultQ2
import Derived.Test.YtpdcppaggedbaaaTy
import Derived.LoopTactic
import Derived.OpenShut
set_option linter.unusedVariables false
set_option linter.unusedSimpArgs false
namespace Go.Proofs.Ytpdcppaggedbaaa
open Go.RowKit Go.Proofs.YtpdcppaggedbaaaW.PrintWords Go.Proofs.YtpdcppaggedbaaaW.PrintLast Go.Proofs.YtpdcppaggedbaaaW.PrintMore Go.Proofs.Ytpdcppaggedbaaa.PFaultActs

theorem does_r (x : U) (k n : Int) (h : Bool) (h2 : k ≤ 2) (h1 : ¬ k = 1) : (x.does k n h).r = x.r := by
  obtain ⟨s, r, o, i⟩ := x
  unfold U.does
  by_cases e0 : k = 0
  · simp only [e0, if_true]; unfold U.sent; split <;> rfl
  · by_cases e2 : k = 2
    · subst e2
      simp only [show ¬ (2 : Int) = 0 by omega, show ¬ (2 : Int) = 1 by omega, if_false, if_true]
      unfold U.failed
      repeat' split
      all_goals rfl
    · rw [if_neg e0, if_neg h1, if_neg e2, if_neg (by omega), if_neg (by omega), if_neg (by omega)]
theorem does_s (x : U) (k n : Int) (h : Bool) (hk : k = 1 ∨ k = 3) : (x.does k n h).s = x.s := by
  obtain ⟨s, r, o, i⟩ := x
  unfold U.does
  rcases hk with rfl | rfl
  · simp only [show ¬ (1 : Int) = 0 by omega, if_false, if_true]; unfold U.received; split <;> rfl
  · simp only [show ¬ (3 : Int) = 0 by omega, show ¬ (3 : Int) = 1 by omega, show ¬ (3 : Int) = 2 by omega, if_false, if_true]; unfold U.erred; split <;> rfl

theorem zero_new (w W : World) (h : Below w.heap.size w W) : PD w (W.alloc (.cells #[.int .i64 0, .int .i64 0, .bool false, .int .i64 0] 38)) W.heap.size U.zero := ⟨IsS38.new w W 0 0 false 0 h, U.zero_ok⟩

set_option maxHeartbeats 1000000 in
theorem apart_walk (a0a : Option Addr) (a0l : Nat) (a0c : Nat) (w : World) (h0_0 : SliceAt 4 B40 R40 w a0a a0l a0c) :
    Calls Try.prog 5 #[.slice a0a a0l a0c] w fun e w' => e = .returned (.bool true) ∧ Below w.heap.size w w' := by
  have hel := fun h => h0_0.plain (by omega) h
  obtain ⟨hlc, hcm, _, _⟩ := h0_0
  unfold maxLen at hcm
  have hB := Below.refl w.heap.size w
  have hlen : a0l ≤ 9223372036854775807 := by omega
  clear hcm
  go_enter Try.func5, Try.ntmps5
  go_wp2_with (first
    | (go_at_call 8; refine (cNew w _ hB).mono ?_; rintro e W1 ⟨gu, rfl, hu1, hB1, _, _⟩))
  go_loopw [4] (fun i wr => ∃ (k : Nat) (x : U), k ≤ a0l ∧ i = .int .i64 k ∧ PU w wr gu x ∧ Below w.heap.size w wr) (fun i _ => a0l - (intOf i).toNat)
  case atStart => exact ⟨0, U.zero, Nat.zero_le _, rfl, hu1, hB1⟩
  case round =>
    obtain ⟨k, x, hk, rfl, hu, hBr⟩ := hrel
    clear hu1 hB1 hB
    by_cases hlt : k < a0l
    · obtain ⟨ab, ao, rfl, hab, hc⟩ := hel (by omega)
      obtain ⟨c, _, hcc, ak, an, ah, at_, rfl, _, _, hz⟩ := hc k hlt
      have e0 : w.cell? ⟨ab, ao + k * 4, none⟩ = some (.int .i64 ak) := by have := hcc 0 (by omega); simpa using this
      have e1 : w.cell? ⟨ab, ao + k * 4 + 1, none⟩ = some (.int .i64 an) := by have := hcc 1 (by omega); simpa using this
      have e2 : w.cell? ⟨ab, ao + k * 4 + 2, none⟩ = some (.bool ah) := by have := hcc 2 (by omega); simpa using this
      have e3 : w.cell? ⟨ab, ao + k * 4 + 3, none⟩ = some (.int .u8 at_) := by have := hcc 3 (by omega); simpa using this
      clear hc hcc hel hz
      obtain ⟨xs, xr, xo, xi⟩ := x
      obtain ⟨ys, yr, yo, yi, hy, hfac⟩ : ∃ ys yr yo yi, U.does ⟨xs, xr, xo, xi⟩ ak an ah = ⟨ys, yr, yo, yi⟩ ∧ ((ak ≤ 2 ∧ ¬ ak = 1 ∧ yr = xr) ∨ ((ak = 1 ∨ ak = 3) ∧ ys = xs) ∨ (2 < ak ∧ ¬ ak = 3)) := by
        have h1 := does_r ⟨xs, xr, xo, xi⟩ ak an ah
        have h2 := does_s ⟨xs, xr, xo, xi⟩ ak an ah
        generalize U.does ⟨xs, xr, xo, xi⟩ ak an ah = y at h1 h2
        obtain ⟨ys, yr, yo, yi⟩ := y
        refine ⟨ys, yr, yo, yi, rfl, ?_⟩
        by_cases ca : ak = 1
        · exact .inr (.inl ⟨.inl ca, h2 (.inl ca)⟩)
        · by_cases cb : ak = 3
          · exact .inr (.inl ⟨.inr cb, h2 (.inr cb)⟩)
          · by_cases cc : ak ≤ 2
            · exact .inl ⟨cc, ca, h1 cc ca⟩
            · exact .inr (.inr ⟨by omega, cb⟩)
      have HY := Lib.hid hy
      clear hy
      rcases hfac with ⟨f1, f2, rfl⟩ | ⟨f1, rfl⟩ | ⟨f1, f2⟩
      · have g1 : decide (ak ≤ 2) = true := decide_eq_true f1
        have g2 : (ak != 1) = true := by simpa using f2
        have g3 : (ak == 1) = false := by simpa using f2
        have g4 : (ak == 3) = false := by simp; omega
        clear f1 f2
        go_wp2_with (first
          | (go_at_call 12; first
              | (refine (cCounts hu hBr).mono ?_; rintro e W1 ⟨rfl, hu1, hB1, hk1⟩; have c0 := (hB1.cell (by exact hab)).trans e0; have c1 := (hB1.cell (by exact hab)).trans e1; have c2 := (hB1.cell (by exact hab)).trans e2; have c3 := (hB1.cell (by exact hab)).trans e3; have hab1 : ab < W1.heap.size := Nat.lt_of_lt_of_le hab hB1.size)
              | (refine (cCounts hu2 hB2).mono ?_; rintro e W3 ⟨rfl, hu3, hB3, hk3⟩; have c0' := (hB3.cell (by exact hab)).trans e0))
          | (go_at_call 15; refine (does_any _ an ah at_ (hu1.alloc _) (zero_new w W1 hB1) (hB1.alloc hB1.size _)).mono ?_; rintro e W2 ⟨rfl, hu2, _, hB2, _⟩; rw [HY.out] at hu2))
        have HU := Lib.hid hu3
        have HB := Lib.hid hB3
        clear hu hBr hu1 hB1 hk1 hu2 hB2 hu3 hB3 hk3 c0 c1 c2 c3 c0' e0 e1 e2 e3
        go_roundw
        case rel => exact ⟨k + 1, _, by omega, by go_num, HU.out, HB.out⟩
        case measure => simp [intOf]; omega
      · rcases f1 with rfl | rfl
        · go_wp2_with (first
            | (go_at_call 12; first
                | (refine (cCounts hu hBr).mono ?_; rintro e W1 ⟨rfl, hu1, hB1, hk1⟩; have c0 := (hB1.cell (by exact hab)).trans e0; have c1 := (hB1.cell (by exact hab)).trans e1; have c2 := (hB1.cell (by exact hab)).trans e2; have c3 := (hB1.cell (by exact hab)).trans e3; have hab1 : ab < W1.heap.size := Nat.lt_of_lt_of_le hab hB1.size)
                | (refine (cCounts hu2 hB2).mono ?_; rintro e W3 ⟨rfl, hu3, hB3, hk3⟩; have c0' := (hB3.cell (by exact hab)).trans e0))
            | (go_at_call 15; refine (does_any _ an ah at_ (hu1.alloc _) (zero_new w W1 hB1) (hB1.alloc hB1.size _)).mono ?_; rintro e W2 ⟨rfl, hu2, _, hB2, _⟩; rw [HY.out] at hu2))
          have HU := Lib.hid hu3
          have HB := Lib.hid hB3
          clear hu hBr hu1 hB1 hk1 hu2 hB2 hu3 hB3 hk3 c0 c1 c2 c3 c0' e0 e1 e2 e3
          go_roundw
          case rel => exact ⟨k + 1, _, by omega, by go_num, HU.out, HB.out⟩
          case measure => simp [intOf]; omega
        · go_wp2_with (first
            | (go_at_call 12; first
                | (refine (cCounts hu hBr).mono ?_; rintro e W1 ⟨rfl, hu1, hB1, hk1⟩; have c0 := (hB1.cell (by exact hab)).trans e0; have c1 := (hB1.cell (by exact hab)).trans e1; have c2 := (hB1.cell (by exact hab)).trans e2; have c3 := (hB1.cell (by exact hab)).trans e3; have hab1 : ab < W1.heap.size := Nat.lt_of_lt_of_le hab hB1.size)
                | (refine (cCounts hu2 hB2).mono ?_; rintro e W3 ⟨rfl, hu3, hB3, hk3⟩; have c0' := (hB3.cell (by exact hab)).trans e0))
            | (go_at_call 15; refine (does_any _ an ah at_ (hu1.alloc _) (zero_new w W1 hB1) (hB1.alloc hB1.size _)).mono ?_; rintro e W2 ⟨rfl, hu2, _, hB2, _⟩; rw [HY.out] at hu2))
          have HU := Lib.hid hu3
          have HB := Lib.hid hB3
          clear hu hBr hu1 hB1 hk1 hu2 hB2 hu3 hB3 hk3 c0 c1 c2 c3 c0' e0 e1 e2 e3
          go_roundw
          case rel => exact ⟨k + 1, _, by omega, by go_num, HU.out, HB.out⟩
          case measure => simp [intOf]; omega
      · have g1 : decide (ak ≤ 2) = false := decide_eq_false (by omega)
        have g2 : (ak == 1) = false := by simp; omega
        have g3 : (ak == 3) = false := by simpa using f2
        clear f1 f2
        go_wp2_with (first
          | (go_at_call 12; first
              | (refine (cCounts hu hBr).mono ?_; rintro e W1 ⟨rfl, hu1, hB1, hk1⟩; have c0 := (hB1.cell (by exact hab)).trans e0; have c1 := (hB1.cell (by exact hab)).trans e1; have c2 := (hB1.cell (by exact hab)).trans e2; have c3 := (hB1.cell (by exact hab)).trans e3; have hab1 : ab < W1.heap.size := Nat.lt_of_lt_of_le hab hB1.size)
              | (refine (cCounts hu2 hB2).mono ?_; rintro e W3 ⟨rfl, hu3, hB3, hk3⟩; have c0' := (hB3.cell (by exact hab)).trans e0))
          | (go_at_call 15; refine (does_any _ an ah at_ (hu1.alloc _) (zero_new w W1 hB1) (hB1.alloc hB1.size _)).mono ?_; rintro e W2 ⟨rfl, hu2, _, hB2, _⟩; rw [HY.out] at hu2))
        have HU := Lib.hid hu3
        have HB := Lib.hid hB3
        clear hu hBr hu1 hB1 hk1 hu2 hB2 hu3 hB3 hk3 c0 c1 c2 c3 c0' e0 e1 e2 e3
        go_roundw
        case rel => exact ⟨k + 1, _, by omega, by go_num, HU.out, HB.out⟩
        case measure => simp [intOf]; omega
    · go_wp2_with (go_at_call 13; refine (lives_true _).mono ?_; rintro e W2 ⟨rfl, hB2⟩)
      go_ret
      exact ⟨rfl, hBr.trans (hB2.mono hBr.size)⟩
end Go.Proofs.Ytpdcppaggedbaaa
