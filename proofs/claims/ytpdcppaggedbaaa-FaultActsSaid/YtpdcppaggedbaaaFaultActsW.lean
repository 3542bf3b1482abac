/- Layer 3: FaultActs' walk. -/
import Derived.Test.YtpdcppaggedbaaaFaultQ2
import Derived.Test.YtpdcppaggedbaaaTy
import Derived.LoopTactic
import Derived.OpenShut
set_option linter.unusedVariables false
set_option linter.unusedSimpArgs false
namespace Go.Proofs.Ytpdcppaggedbaaa
open Go.RowKit Go.Proofs.YtpdcppaggedbaaaW.PrintWords Go.Proofs.YtpdcppaggedbaaaW.PrintLast Go.Proofs.YtpdcppaggedbaaaW.PrintMore Go.Proofs.Ytpdcppaggedbaaa.PFaultActs

theorem agree_self (x : U) (k n : Int) : agree x x k n = true := by unfold agree; split <;> simp

set_option maxHeartbeats 1000000 in
theorem acts_walk (a0a : Option Addr) (a0l : Nat) (a0c : Nat) (w : World) (h0_0 : SliceAt 4 B40 R40 w a0a a0l a0c) :
    Calls Try.prog 6 #[.slice a0a a0l a0c] w fun e w' => e = .returned (.bool true) ∧ Below w.heap.size w w' := by
  have hel := fun h => h0_0.plain (by omega) h
  obtain ⟨hlc, hcm, _, _⟩ := h0_0
  unfold maxLen at hcm
  have hB := Below.refl w.heap.size w
  have hlen : a0l ≤ 9223372036854775807 := by omega
  clear hcm
  go_enter Try.func6, Try.ntmps6
  go_wp2_with (first
    | (go_at_call 8; refine (cNew w _ hB).mono ?_; rintro e W1 ⟨gu, rfl, hu1, hB1, _, _⟩))
  have hd1 : PD w (W1.alloc (.cells #[.int .i64 0, .int .i64 0, .bool false, .int .i64 0] 38)) W1.heap.size U.zero := ⟨IsS38.new w W1 0 0 false 0 hB1, U.zero_ok⟩
  have hu2 := hu1.alloc (.cells #[.int .i64 0, .int .i64 0, .bool false, .int .i64 0] 38)
  have hB2 := hB1.alloc hB1.size (.cells #[.int .i64 0, .int .i64 0, .bool false, .int .i64 0] 38)
  obtain ⟨gd, hgd⟩ : ∃ gd, W1.heap.size = gd := ⟨_, rfl⟩
  rw [hgd] at hd1
  rw [hgd]
  clear hgd hu1 hB1 hB
  go_loopw [5] (fun i wr => ∃ (k : Nat) (x : U), k ≤ a0l ∧ i = .int .i64 k ∧ PU w wr gu x ∧ PD w wr gd x ∧ Below w.heap.size w wr) (fun i _ => a0l - (intOf i).toNat)
  case atStart => exact ⟨0, U.zero, Nat.zero_le _, rfl, hu2, hd1, hB2⟩
  case round =>
    obtain ⟨k, x, hk, rfl, hu, hd, hBr⟩ := hrel
    clear hu2 hd1 hB2
    by_cases hlt : k < a0l
    · obtain ⟨ab, ao, rfl, hab, hc⟩ := hel (by omega)
      obtain ⟨c, _, hcc, ak, an, ah, at_, rfl, _, _, hz⟩ := hc k hlt
      have e0 : w.cell? ⟨ab, ao + k * 4, none⟩ = some (.int .i64 ak) := by have := hcc 0 (by omega); simpa using this
      have e1 : w.cell? ⟨ab, ao + k * 4 + 1, none⟩ = some (.int .i64 an) := by have := hcc 1 (by omega); simpa using this
      have e2 : w.cell? ⟨ab, ao + k * 4 + 2, none⟩ = some (.bool ah) := by have := hcc 2 (by omega); simpa using this
      have e3 : w.cell? ⟨ab, ao + k * 4 + 3, none⟩ = some (.int .u8 at_) := by have := hcc 3 (by omega); simpa using this
      obtain ⟨hz0, hz1⟩ := bounds_u8 hz
      clear hc hcc hel hz
      obtain ⟨wo, hwo⟩ : ∃ wo : World, wo = wr := ⟨_, rfl⟩
      subst hwo
      go_wp2_with fail
      go_loopw [6] (fun i wr => ∃ (j : Nat) (x : U), (j : Int) ≤ at_ + 1 ∧ i = .int .i64 j ∧ PU w wr gu x ∧ PD w wr gd x ∧ Below w.heap.size w wr) (fun i _ => (at_ + 1).toNat - (intOf i).toNat)
      case atStart => exact ⟨0, x, by omega, rfl, hu, hd, hBr⟩
      case round =>
        clear hu hd hBr
        obtain ⟨j, x, hj, rfl, hu, hd, hBr⟩ := hrel
        have c3 := (hBr.cell (by exact hab)).trans e3
        by_cases hjl : (j : Int) ≤ at_
        · have c0 := (hBr.cell (by exact hab)).trans e0
          have c1 := (hBr.cell (by exact hab)).trans e1
          have c2 := (hBr.cell (by exact hab)).trans e2
          go_wp2_with (first
            | (go_at_call 15; refine (does_any ak an ah at_ hu hd hBr).mono ?_; rintro e W3 ⟨rfl, hu3, hd3, hB3, _⟩; rw [agree_self]; generalize x.does ak an ah = y at hu3 hd3; obtain ⟨s, r, o, i⟩ := y)
            | (go_at_call 12; refine (cCounts hu3 hB3).mono ?_; rintro e W4 ⟨rfl, hu4, hB4, hk4⟩; have hd4 := hd3.keep hk4 (hu3.ne hd3).symm; have hgu := Lib.hid hu4.1.1; have hgd := Lib.hid hd4.1.1; have d0 := cellS38_0 hgd.out; have d1 := cellS38_1 hgd.out; have HU := Lib.hid hu4; have HD := Lib.hid hd4; have HB := Lib.hid hB4; clear hu4 hd4 hB4 hu hd hBr hu3 hd3 hB3 hk4 c0 c1 c2 c3; dsimp only)
            | (go_at_call 10; refine (q10 hgu.out).mono ?_; rintro e W5 ⟨rfl, n1, rfl⟩)
            | (go_at_call 16; refine (q16 (by exact hgd.out)).mono ?_; rintro e W6 ⟨rfl, n2, rfl⟩)
            | (go_at_call 17; refine (q17 (by exact hgu.out)).mono ?_; rintro e W7 ⟨rfl, n3, rfl⟩)
            | (go_at_call 18; refine (q18 (by exact hgd.out)).mono ?_; rintro e W8 ⟨rfl, n4, rfl⟩))
          go_roundw
          case rel => exact ⟨j + 1, _, by omega, by go_num, HU.out, HD.out, pw_below_drewN HB.out _⟩
          case measure => simp [intOf]; omega
        · go_wp2_with fail
          go_roundw
          case rel => exact ⟨k + 1, x, by omega, by go_num, hu, hd, hBr⟩
          case measure => simp [intOf]; omega
    · go_wp2_with (go_at_call 13; refine (lives_true _).mono ?_; rintro e W2 ⟨rfl, hB2⟩)
      go_ret
      exact ⟨rfl, hBr.trans (hB2.mono hBr.size)⟩
end Go.Proofs.Ytpdcppaggedbaaa
